/- What the functions answer, and the law. -/
import Derived.Test.YtcbknemdidehlaaGreatDoorR
import Derived.Test.YtcbknemdidehlaaGreatDoorB
import Derived.Test.YtcbknemdidehlaaGreatDoorPl
import Derived.Test.YtcbknemdidehlaaGreatDoorSh
import Derived.WalkKit
import Derived.BigCall
import Derived.Test.YtcbknemdidehlaaGreatDoorPx3
import Derived.Test.YtcbknemdidehlaaGreatDoorPx1
import Derived.Test.YtcbknemdidehlaaGreatDoorPx2
/- Values and areas as the program holds them; what the functions of layers 5, 6 and 17 answer of them. -/
set_option maxRecDepth 100000
set_option linter.all false
namespace Go.Proofs.YtcbknemdidehlaaGreatDoor
open Ab R
theorem tz : (∀ (p : Prop) [Decidable p], (decide p = true) = p) ∧ (∀ (p : Prop) [Decidable p], (decide p = false) = ¬p) ∧ (∀ b : Bool, ((!b) = true) = (b = false)) ∧ (∀ b : Bool, ((!b) = false) = (b = true)) ∧
    (∀ (α β : Type) (f : α → β) (l : List α), (l.map f).length = l.length) ∧ (∀ a b : Int, (¬a < b) = (b ≤ a)) ∧ (∀ a b : Int, (¬a ≤ b) = (b < a)) ∧ (∀ (p : Prop) [Decidable p], (¬¬p) = p) ∧ (∀ (α : Type) [LT α] (a b : α), (a > b) = (b < a)) ∧ ∀ (α : Type) [LE α] (a b : α), (a ≥ b) = (b ≤ a) :=
  ⟨fun p _ => by simp, fun p _ => by simp, fun b => by simp, fun b => by simp, fun α β f l => by simp, fun a b => by simp, fun a b => by simp, fun p _ => by simp, fun α _ a b => rfl, fun α _ a b => rfl⟩
theorem cllo {P : Program} {g : FuncId} {args : List V} {r : V} {K : V → Prop} {B : Prop} (h : Ret P g args r) (k : wfV 8 r → K r) : (∃ r, Ret P g args r ∧ (wfV 8 r → K r)) ∨ B := .inl ⟨r, h, k⟩
theorem clll {P : Program} {g : FuncId} {args : List V} {s s' : List O} {r : V} {K : V → List O → Prop} {A C : Prop} (h : RetL P g args s r s') (k : wfV 8 r → wfL s' → K r s') : A ∨ (∃ r s', RetL P g args s r s' ∧ (wfV 8 r → wfL s' → K r s')) ∨ C := .inr (.inl ⟨r, s', h, k⟩)
/-- A callee laid open in place. -/
theorem clqi {P : Program} {g : FuncId} {args : List V} {s : List O} {K : V → List O → Prop} {A C D : Prop} (h : RetQ P g args s fun r s' => wfV 8 r → wfL s' → K r s') : A ∨ C ∨ (∃ Q, RetQ P g args s Q ∧ ∀ r s', Q r s' → wfV 8 r → wfL s' → K r s') ∨ D := .inr (.inr (.inl ⟨_, h, fun _ _ q => q⟩))
theorem fLm {α : Type} {s : List O} {l : List α} {f : α → List Nat} {K : List O → Prop} (h : l.flatMap f = []) (k : K s) : fL fO (Ab.mark s (l.flatMap f)) K := by rw [fL_eq fO_eq, h]; exact k
theorem fVk {n : Nat} {v : V} {K : V → Prop} (h : K v) : fV n v K := by rw [fV_eq]; exact h
theorem fLVk {n : Nat} {l : List V} {K : List V → Prop} (h : K l) : fL (fV n) l K := by rw [fL_eq (fV_eq n)]; exact h
theorem fWk {n : Nat} {v : V} {K : V → Prop} (h : K v) : fW n v K := by rw [fW_eq]; exact h
theorem pickk : ∀ {cs : List Nat} {n : Nat} {K : Nat → Prop}, K n → pickN cs n K
  | [], _, _, h => h
  | c :: cs, n, K, h => by
    simp only [pickN]
    cases q : Nat.beq c n
    · exact pickk h
    · rw [Nat.eq_of_beq_eq_true q]; exact h
theorem pickk0 {cs : List Nat} {c n : Nat} {K : Nat → Prop} (h : K n) : pickN (c :: cs) n K := pickk h
/-- A state that has a name. -/
structure Sv (s : List O) : Prop where
theorem fLk {s : List O} {K : List O → Prop} (_ : Sv s) (h : K s) : fL fO s K := by rw [fL_eq fO_eq]; exact h
theorem nilk {p A B : Prop} (a : p → A) (b : B) : (p → A) ∧ B := ⟨a, b⟩
theorem sda {p q : Prop} (h : p) (k : q) : Sd p ∧ q := ⟨⟨h⟩, k⟩
theorem conk {els : List (List V)} {i : Nat} {c : List V} {K : List V → Prop} (h : els[i]? = some c) (k : K c) : ∀ cs, els[i]? = some cs → K cs := fun cs hcs => by
  rw [h] at hcs
  rw [← Option.some.inj hcs]
  exact k
theorem ldk {o : Option V} {w : V} {K : V → Prop} (h : o = some w) (k : K w) : ∀ v, o = some v → K v := fun v hv => by
  rw [h] at hv
  rw [← Option.some.inj hv]
  exact k
theorem mapk {α : Type} {l : List α} {f : α → List V} {i : Nat} {K : List V → Prop} (h : ∀ x, l[i]? = some x → K (f x)) : ∀ cs, (l.map f)[i]? = some cs → K cs := fun cs hcs => by
  rw [List.getElem?_map] at hcs
  cases hx : l[i]? with
  | none => rw [hx] at hcs; cases hcs
  | some x => rw [hx] at hcs; obtain rfl := Option.some.inj hcs; exact h x hx
theorem eqk {α : Type} {o : Option α} {w : α} {K : α → Prop} (h : o = some w) (k : K w) : ∀ v, o = some v → K v := fun v hv => by
  rw [h] at hv
  rw [← Option.some.inj hv]
  exact k
theorem leftk1 {es : List (Nat × V × V)} {seen : List Nat} {a : Nat × V × V} {K : Nat × V × V → Prop} (h : leftM es seen = [a]) (k : K a) : ∀ y, y ∈ leftM es seen → K y := fun y hy => by
  rw [h, List.mem_singleton] at hy
  rw [hy]
  exact k
theorem leftk0 {es : List (Nat × V × V)} {seen : List Nat} {K : Nat × V × V → Prop} (h : leftM es seen = []) : ∀ y, y ∈ leftM es seen → K y := fun y hy => by
  rw [h] at hy
  cases hy
theorem bytk {els : List (List V)} {l : List Int} {K : List Int → Prop} (h : bytesV els = some l) (k : K l) : (∀ l, bytesV els = some l → K l) ∧ Sd ((bytesV els).isSome = true) := by
  refine ⟨fun l' hl => ?_, ⟨by rw [h]; rfl⟩⟩
  rw [h] at hl
  rw [← Option.some.inj hl]
  exact k
theorem bytk8 {els : List (List V)} {c : List UInt8} {K : List Int → Prop} (h : els = c.map fun c => [V.int .u8 c.toNat]) (k : K (c.map fun c => (c.toNat : Int))) : (∀ l, bytesV els = some l → K l) ∧ Sd ((bytesV els).isSome = true) :=
  bytk (h ▸ bytesV_map (fun c : UInt8 => (c.toNat : Int)) c) k
structure GV where
  k : Int
  n : Int
  s : ByteArray
abbrev cV (v : GV) : List V := [.int .i64 v.k, .int .i64 v.n, .str v.s]
abbrev eV (v : GV) : V := .agg (cV v)
structure Ar where
  rows : Int
  cols : Int
  l : List GV
  many : Bool
abbrev cA (a : Ar) : List V := [.int .i64 a.rows, .int .i64 a.cols, .row false (a.l.map cV), .bool a.many]
abbrev eA (a : Ar) : V := .agg (cA a)
abbrev e0 : ByteArray := ⟨#[]⟩
def badS (n : Int) : GV := ⟨4, if n < 1 ∨ n > 8 then 2 else n, e0⟩
theorem value_Bad (n : Int) : Ret Tryz.prog F_value_Bad [.int .i64 n] (eV (badS n)) := by
  refine r_value_Bad rfl fun _ => ?_
  ((conv => whnf); refine csp (fun h => ?_) (fun h => ?_))
  · conv => whnf
    simp_all [badS]
  · ((conv => whnf); refine csp (fun h => ?_) (fun h => ?_))
    · conv => whnf
      simp_all [badS]
    · conv => whnf
      simp_all [badS]
      omega
def goodN (n : Int) : Bool := decide (-100000000000 ≤ n ∧ n ≤ 100000000000)
theorem num_Good (n : Int) : Ret Tryz.prog F_num_Good [.int .i64 n] (.bool (goodN n)) := by
  refine r_num_Good rfl fun _ => ?_
  ((conv => whnf); refine csp (fun h => ?_) (fun h => ?_))
  · conv => whnf
    simp_all [goodN]
  · conv => whnf
    simp_all [goodN]
    try omega
def ofS (n : Int) (ok : Bool) : GV := if ok && goodN n then ⟨1, n, e0⟩ else badS 5
theorem value_Of (n : Int) (ok : Bool) : Ret Tryz.prog F_value_Of [.int .i64 n, .bool ok] (eV (ofS n ok)) := by
  refine r_value_Of rfl fun _ => ?_
  ((conv => whnf); refine csp (fun h => ?_) (fun h => ?_))
  · refine cllo (num_Good _) (fun _ => ?_)
    ((conv => whnf); refine csp (fun h => ?_) (fun h => ?_))
    · conv => whnf
      simp_all [ofS]
    · refine cllo (value_Bad _) (fun _ => ?_)
      conv => whnf
      simp_all [ofS]
  · refine cllo (value_Bad _) (fun _ => ?_)
    conv => whnf
    simp_all [ofS]
/-- The program's own forms of a value. -/
def ownS (v : GV) : V :=
  if v.k = 0 then .iface 113 (.agg []) else if v.k = 1 then .iface 114 (.int .i64 v.n) else if v.k = 2 then .iface 116 (.str v.s)
  else if v.k = 3 then .iface 115 (.bool (!decide (v.n = 0))) else if v.k = 4 then .iface 118 (.int .i64 v.n) else .nilI
theorem value_own (v : GV) : Ret Tryz.prog F_value_own [eV v] (ownS v) := by
  refine r_value_own rfl fun _ => ?_
  ((conv => whnf); refine csp (fun h => ?_) (fun h => ?_))
  · conv => whnf
    simp_all [ownS]
  ((conv => whnf); refine csp (fun h => ?_) (fun h => ?_))
  · conv => whnf
    simp_all [ownS]
  ((conv => whnf); refine csp (fun h => ?_) (fun h => ?_))
  · conv => whnf
    simp_all [ownS]
  ((conv => whnf); refine csp (fun h => ?_) (fun h => ?_))
  · conv => whnf
    simp_all [ownS]
  ((conv => whnf); refine csp (fun h => ?_) (fun h => ?_))
  · conv => whnf
    simp_all [ownS]
  conv => whnf
  simp_all [ownS]
def goodV (v : GV) : Bool :=
  if v.k = 0 then decide (v.n = 0 ∧ v.s = e0) else if v.k = 1 then goodN v.n && decide (v.s = e0) else if v.k = 2 then decide (v.n = 0 ∧ v.s.size ≤ 255)
  else if v.k = 3 then decide ((v.n = 0 ∨ v.n = 1) ∧ v.s = e0) else if v.k = 4 then decide (1 ≤ v.n ∧ v.n ≤ 8 ∧ v.s = e0) else false
theorem own0 {v : GV} (h : v.k = 0) : Ret Tryz.prog F_value_own [eV v] (.iface 113 (.agg [])) := by have := value_own v; simpa [ownS, h] using this
theorem own1 {v : GV} (h : v.k = 1) : Ret Tryz.prog F_value_own [eV v] (.iface 114 (.int .i64 v.n)) := by have := value_own v; simpa [ownS, h] using this
theorem own2 {v : GV} (h : v.k = 2) : Ret Tryz.prog F_value_own [eV v] (.iface 116 (.str v.s)) := by have := value_own v; simpa [ownS, h] using this
theorem own3 {v : GV} (h : v.k = 3) : Ret Tryz.prog F_value_own [eV v] (.iface 115 (.bool (!decide (v.n = 0)))) := by have := value_own v; simpa [ownS, h] using this
theorem own4 {v : GV} (h : v.k = 4) : Ret Tryz.prog F_value_own [eV v] (.iface 118 (.int .i64 v.n)) := by have := value_own v; simpa [ownS, h] using this
theorem own5 {v : GV} (h : ¬ v.k = 0) (h1 : ¬ v.k = 1) (h2 : ¬ v.k = 2) (h3 : ¬ v.k = 3) (h4 : ¬ v.k = 4) : Ret Tryz.prog F_value_own [eV v] .nilI := by have := value_own v; simpa [ownS, h, h1, h2, h3, h4] using this
theorem value_Good (v : GV) : Ret Tryz.prog F_value_Good [eV v] (.bool (goodV v)) := by
  obtain ⟨k, n, s⟩ := v
  by_cases h0 : k = 0
  · subst h0
    refine r_value_Good rfl fun _ => ?_
    repeat' ((conv => whnf); (first | refine csp (fun h => ?_) (fun h => ?_) | refine cllo (own0 rfl) (fun _ => ?_) | refine cllo (num_Good _) (fun _ => ?_) | (refine sda ?_ ?_; (focus (first | rfl | (simp; done)))) | refine sda ?_ ?_ | refine conk rfl ?_ | refine ldk rfl ?_ | refine mapk (fun x hx => ?_) | exact ⟨rfl, rfl⟩ | refine nilk (fun h => ?_) ?_ | intro hl))
    all_goals conv => whnf
    all_goals simp_all [goodV]
  by_cases h1 : k = 1
  · subst h1
    refine r_value_Good rfl fun _ => ?_
    repeat' ((conv => whnf); (first | refine csp (fun h => ?_) (fun h => ?_) | refine cllo (own1 rfl) (fun _ => ?_) | refine cllo (num_Good _) (fun _ => ?_) | (refine sda ?_ ?_; (focus (first | rfl | (simp; done)))) | refine sda ?_ ?_ | refine conk rfl ?_ | refine ldk rfl ?_ | refine mapk (fun x hx => ?_) | exact ⟨rfl, rfl⟩ | refine nilk (fun h => ?_) ?_ | intro hl))
    all_goals conv => whnf
    all_goals simp_all [goodV]
  by_cases h2 : k = 2
  · subst h2
    refine r_value_Good rfl fun _ => ?_
    repeat' ((conv => whnf); (first | refine csp (fun h => ?_) (fun h => ?_) | refine cllo (own2 rfl) (fun _ => ?_) | refine cllo (num_Good _) (fun _ => ?_) | (refine sda ?_ ?_; (focus (first | rfl | (simp; done)))) | refine sda ?_ ?_ | refine conk rfl ?_ | refine ldk rfl ?_ | refine mapk (fun x hx => ?_) | exact ⟨rfl, rfl⟩ | refine nilk (fun h => ?_) ?_ | intro hl))
    all_goals conv => whnf
    all_goals simp_all [goodV]
    all_goals omega
  by_cases h3 : k = 3
  · subst h3
    refine r_value_Good rfl fun _ => ?_
    repeat' ((conv => whnf); (first | refine csp (fun h => ?_) (fun h => ?_) | refine cllo (own3 rfl) (fun _ => ?_) | refine cllo (num_Good _) (fun _ => ?_) | (refine sda ?_ ?_; (focus (first | rfl | (simp; done)))) | refine sda ?_ ?_ | refine conk rfl ?_ | refine ldk rfl ?_ | refine mapk (fun x hx => ?_) | exact ⟨rfl, rfl⟩ | refine nilk (fun h => ?_) ?_ | intro hl))
    all_goals conv => whnf
    all_goals simp_all [goodV]
  by_cases h4 : k = 4
  · subst h4
    refine r_value_Good rfl fun _ => ?_
    repeat' ((conv => whnf); (first | refine csp (fun h => ?_) (fun h => ?_) | refine cllo (own4 rfl) (fun _ => ?_) | refine cllo (num_Good _) (fun _ => ?_) | (refine sda ?_ ?_; (focus (first | rfl | (simp; done)))) | refine sda ?_ ?_ | refine conk rfl ?_ | refine ldk rfl ?_ | refine mapk (fun x hx => ?_) | exact ⟨rfl, rfl⟩ | refine nilk (fun h => ?_) ?_ | intro hl))
    all_goals conv => whnf
    all_goals simp_all [goodV]
    all_goals omega
  · refine r_value_Good rfl fun _ => ?_
    repeat' ((conv => whnf); (first | refine csp (fun h => ?_) (fun h => ?_) | refine cllo (own5 h0 h1 h2 h3 h4) (fun _ => ?_) | (refine sda ?_ ?_; (focus (first | rfl | (simp; done)))) | refine sda ?_ ?_ | refine conk rfl ?_ | refine ldk rfl ?_ | refine mapk (fun x hx => ?_) | exact ⟨rfl, rfl⟩ | refine nilk (fun h => ?_) ?_ | intro hl))
    all_goals conv => whnf
    all_goals simp_all [goodV]
/-- The number of a value, or the error's; a text is not asked. -/
def toNumS (v : GV) : Int × Int := if v.k = 0 then (0, 0) else if v.k = 1 then (v.n, 0) else if v.k = 3 then (if v.n = 0 then 0 else 10000, 0) else if v.k = 4 then (0, v.n) else (0, 2)
theorem value_ToNum (v : GV) (h2 : ¬ v.k = 2) : Ret Tryz.prog F_value_ToNum [eV v] (.tup [.int .i64 (toNumS v).1, .int .i64 (toNumS v).2]) := by
  obtain ⟨k, n, s⟩ := v
  by_cases h0 : k = 0
  · subst h0
    refine r_value_ToNum rfl fun _ => ?_
    repeat' ((conv => whnf); (first | refine csp (fun h => ?_) (fun h => ?_) | refine cllo (own0 rfl) (fun _ => ?_) | (refine sda ?_ ?_; (focus (first | rfl | (simp; done)))) | refine sda ?_ ?_ | refine conk rfl ?_ | refine ldk rfl ?_ | refine mapk (fun x hx => ?_) | exact ⟨rfl, rfl⟩ | refine nilk (fun h => ?_) ?_ | intro hl))
    all_goals conv => whnf
    all_goals simp_all [toNumS]
  by_cases h1 : k = 1
  · subst h1
    refine r_value_ToNum rfl fun _ => ?_
    repeat' ((conv => whnf); (first | refine csp (fun h => ?_) (fun h => ?_) | refine cllo (own1 rfl) (fun _ => ?_) | (refine sda ?_ ?_; (focus (first | rfl | (simp; done)))) | refine sda ?_ ?_ | refine conk rfl ?_ | refine ldk rfl ?_ | refine mapk (fun x hx => ?_) | exact ⟨rfl, rfl⟩ | refine nilk (fun h => ?_) ?_ | intro hl))
    all_goals conv => whnf
    all_goals simp_all [toNumS]
  by_cases h3 : k = 3
  · subst h3
    refine r_value_ToNum rfl fun _ => ?_
    repeat' ((conv => whnf); (first | refine csp (fun h => ?_) (fun h => ?_) | refine cllo (own3 rfl) (fun _ => ?_) | (refine sda ?_ ?_; (focus (first | rfl | (simp; done)))) | refine sda ?_ ?_ | refine conk rfl ?_ | refine ldk rfl ?_ | refine mapk (fun x hx => ?_) | exact ⟨rfl, rfl⟩ | refine nilk (fun h => ?_) ?_ | intro hl))
    all_goals conv => whnf
    all_goals simp_all [toNumS]
  by_cases h4 : k = 4
  · subst h4
    refine r_value_ToNum rfl fun _ => ?_
    repeat' ((conv => whnf); (first | refine csp (fun h => ?_) (fun h => ?_) | refine cllo (own4 rfl) (fun _ => ?_) | (refine sda ?_ ?_; (focus (first | rfl | (simp; done)))) | refine sda ?_ ?_ | refine conk rfl ?_ | refine ldk rfl ?_ | refine mapk (fun x hx => ?_) | exact ⟨rfl, rfl⟩ | refine nilk (fun h => ?_) ?_ | intro hl))
    all_goals conv => whnf
    all_goals simp_all [toNumS]
  · refine r_value_ToNum rfl fun _ => ?_
    repeat' ((conv => whnf); (first | refine csp (fun h => ?_) (fun h => ?_) | refine cllo (own5 h0 h1 h2 h3 h4) (fun _ => ?_) | (refine sda ?_ ?_; (focus (first | rfl | (simp; done)))) | refine sda ?_ ?_ | refine conk rfl ?_ | refine ldk rfl ?_ | refine mapk (fun x hx => ?_) | exact ⟨rfl, rfl⟩ | refine nilk (fun h => ?_) ?_ | intro hl))
    all_goals conv => whnf
    all_goals simp_all [toNumS]
def goodA (a : Ar) : Bool := decide (1 ≤ a.rows ∧ 1 ≤ a.cols ∧ a.rows ≤ 4096 ∧ a.cols ≤ 4096 ∧ (a.l.length : Int) = a.rows * a.cols) && a.l.all goodV
theorem take_good {l : List GV} {i : Nat} {x : GV} {p : GV → Bool} (hx : l[i]? = some x) (h : (l.take i).all p = true) (hp : p x = true) : (l.take (i + 1)).all p = true := by
  rw [List.take_add_one, hx]
  simp only [Option.toList, List.all_append, h, List.all_cons, hp, List.all_nil, Bool.and_self]
theorem w64 {n : Int} (h : -9223372036854775808 ≤ n ∧ n ≤ 9223372036854775807) : IntKind.i64.wrap n = n := (wrap_iff .i64 n).2 (by simp only [kLo, kHi]; omega)
theorem mulb {r c : Int} (h1 : 1 ≤ r) (h2 : r ≤ 4096) (h3 : 1 ≤ c) (h4 : c ≤ 4096) : 1 ≤ r * c ∧ r * c ≤ 16777216 :=
  ⟨by have := Int.mul_le_mul h1 h3 (by omega) (by omega); omega, by have := Int.mul_le_mul h2 h4 (by omega) (by omega); omega⟩
theorem goodA_no {a : Ar} {i : Nat} {x : GV} (hx : a.l[i]? = some x) (h : goodV x = false) : goodA a = false := by
  unfold goodA
  rw [Bool.and_eq_false_iff]
  right
  rw [List.all_eq_false]
  exact ⟨x, List.mem_of_getElem? hx, by simp [h]⟩
theorem goodA_bad {a : Ar} (h : ¬ (1 ≤ a.rows ∧ 1 ≤ a.cols ∧ a.rows ≤ 4096 ∧ a.cols ≤ 4096 ∧ (a.l.length : Int) = a.rows * a.cols)) : goodA a = false := by
  unfold goodA
  rw [decide_eq_false h, Bool.false_and]
theorem goodA_yes {a : Ar} (h : 1 ≤ a.rows ∧ 1 ≤ a.cols ∧ a.rows ≤ 4096 ∧ a.cols ≤ 4096 ∧ (a.l.length : Int) = a.rows * a.cols) (hl : a.l.all goodV = true) : goodA a = true := by
  unfold goodA
  rw [decide_eq_true h, hl, Bool.true_and]
theorem maths_Good (a : Ar) : Ret Tryz.prog F_maths_Good [eA a] (.bool (goodA a)) := by
  refine r_maths_Good rfl fun hw => ?_
  clear hw
  repeat' ((conv => whnf); (first | refine csp (fun h => ?_) (fun h => ?_) | (refine sda ?_ ?_; (focus (first | rfl | (simp; done)))) | refine sda ?_ ?_ | refine conk rfl ?_ | refine ldk rfl ?_ | refine mapk (fun x hx => ?_) | exact ⟨rfl, rfl⟩ | refine nilk (fun h => ?_) ?_ | intro hl))
  rotate_right
  · try simp only [tz] at *
    have hm := mulb (r := a.rows) (c := a.cols) (by omega) (by omega) (by omega) (by omega)
    have hL : (a.l.length : Int) = a.rows * a.cols := by
      have := w64 (n := a.rows * a.cols) (by omega)
      omega
    refine .inl ⟨Int, [35, 36, 37], [], fun i => [(35, .row false (a.l.map cV)), (36, .int .i64 a.l.length), (37, .int .i64 i)], fun _ => [], fun i => 0 ≤ i ∧ i ≤ a.l.length ∧ (a.l.take i.toNat).all goodV = true, fun i => (a.l.length - i).toNat, rfl, ?_, fun i hi => ?_⟩
    · exact ⟨0, rfl, rfl, by simp⟩
    · obtain ⟨hi0, hi1, hi2⟩ := hi
      repeat' ((conv => whnf); (first | refine csp (fun h => ?_) (fun h => ?_) | refine cllo (value_Good _) (fun _ => ?_) | (refine sda ?_ ?_; (focus (first | rfl | (simp; done)))) | refine sda ?_ ?_ | refine conk rfl ?_ | refine ldk rfl ?_ | refine mapk (fun x hx => ?_) | exact ⟨rfl, rfl⟩ | refine nilk (fun h => ?_) ?_ | intro hl))
      · try simp only [tz] at *
        omega
      · conv => whnf
        rw [goodA_no hx (by simpa using h)]
      · conv => whnf
        try simp only [tz] at *
        have hw1 := w64 (n := i + 1) (by omega)
        refine ⟨i + 1, by rw [hw1], by trivial, ⟨by omega, by omega, ?_⟩, by omega⟩
        rw [show (i + 1).toNat = i.toNat + 1 by omega]
        exact take_good hx hi2 h
      · conv => whnf
        try simp only [tz] at *
        rw [goodA_yes (by omega)]
        have : a.l.take i.toNat = a.l := List.take_of_length_le (by omega)
        rwa [this] at hi2
  all_goals conv => whnf
  all_goals try simp only [tz] at *
  · rw [goodA_bad (by omega)]
  · rw [goodA_bad (by omega)]
  · rw [goodA_bad (by omega)]
  · rw [goodA_bad (by omega)]
  · have hm := mulb (r := a.rows) (c := a.cols) (by omega) (by omega) (by omega) (by omega)
    rw [w64 (by omega)] at h
    rw [goodA_bad (by omega)]
end Go.Proofs.YtcbknemdidehlaaGreatDoor

/- One value of an area, whole numbers. -/
set_option maxRecDepth 100000
set_option linter.all false
namespace Go.Proofs.YtcbknemdidehlaaGreatDoor
open Ab R
def oneS (a : Ar) : GV := if a.l.length = 1 ∧ goodA a = true then a.l.headD ⟨0, 0, e0⟩ else badS 2
theorem maths_One (a : Ar) : Ret Tryz.prog F_maths_One [eA a] (eV (oneS a)) := by
  refine r_maths_One rfl fun hw => ?_
  clear hw
  repeat' ((conv => whnf); (first | refine csp (fun h => ?_) (fun h => ?_) | refine cllo (maths_Good _) (fun _ => ?_) | refine cllo (value_Bad _) (fun _ => ?_) | (refine sda ?_ ?_; (focus (first | rfl | (simp; done)))) | refine sda ?_ ?_ | refine conk rfl ?_ | refine ldk rfl ?_ | refine mapk (fun x hx => ?_) | exact ⟨rfl, rfl⟩ | refine nilk (fun h => ?_) ?_ | intro hl))
  all_goals conv => whnf
  all_goals try simp only [tz] at *
  · rw [oneS, if_neg (fun q => by omega)]
  · rw [oneS, if_neg (by rw [h]; simp)]
  · omega
  · obtain ⟨r, c, l, m⟩ := a
    cases l with
    | nil => cases hx
    | cons y l =>
      cases hx
      rw [oneS, if_pos ⟨by omega, h⟩]
      rfl
def wholeS (n : Int) : Int × Bool := if goodN n = true ∧ n.tmod 10000 = 0 then (n.tdiv 10000, true) else (0, false)
theorem tdivb {n : Int} (h : goodN n = true) : -10000000 ≤ n.tdiv 10000 ∧ n.tdiv 10000 ≤ 10000000 := by
  simp only [goodN, decide_eq_true_eq] at h
  rw [Int.tdiv_eq_ediv]
  split
  · omega
  · simp only [show Int.sign 10000 = 1 from rfl]
    omega
theorem num_Whole (n : Int) : Ret Tryz.prog F_num_Whole [.int .i64 n] (.tup [.int .i64 (wholeS n).1, .bool (wholeS n).2]) := by
  refine r_num_Whole rfl fun hw => ?_
  clear hw
  repeat' ((conv => whnf); (first | refine csp (fun h => ?_) (fun h => ?_) | refine cllo (num_Good _) (fun _ => ?_) | (refine sda ?_ ?_; (focus (first | rfl | (simp; done)))) | refine sda ?_ ?_ | refine conk rfl ?_ | refine ldk rfl ?_ | refine mapk (fun x hx => ?_) | exact ⟨rfl, rfl⟩ | refine nilk (fun h => ?_) ?_ | intro hl))
  all_goals conv => whnf
  all_goals try simp only [tz] at *
  · rw [wholeS, if_neg (by simp [h])]
  · rw [wholeS, if_neg (fun q => h q.2)]
  · have h1 : goodN n = true := by assumption
    have := tdivb h1
    rw [wholeS, if_pos ⟨h1, h⟩, w64 (by omega)]
end Go.Proofs.YtcbknemdidehlaaGreatDoor

/- Rows of texts: a walk's, and joined ones. -/
set_option maxRecDepth 100000
set_option linter.all false
namespace Go.Proofs.YtcbknemdidehlaaGreatDoor
open Ab R P Go.RowKit Go.Proofs.YtcbknemdidehlaaGreatDoorW.PrintWords Go.Proofs.YtcbknemdidehlaaGreatDoorW.PrintLast
abbrev cS (c : ByteArray) : List V := [.str c]
theorem Ab.Ret.callsW {P : Program} {f : FuncId} {args : List V} {r : V} {x : Value} (hcall : ∀ ar w, (callFunc f ar).run P w = .ok (.enter f ar) w) (hr : Fits r x)
    (h : ∀ (m : Mem) (w : World) (vs : List Value), Gk m → m.ok w → RepL m [] args vs → Calls P f vs.toArray w fun e w' => e = .returned x ∧ Below w.heap.size w w') : Ret P f args r := by
  intro m w ys hG hm rv
  unfold CallsX
  rw [hcall]
  refine (h m w ys hG hm rv).mono fun e w' ⟨he, hb⟩ => ⟨x, he, m, fun _ _ _ q => q, fun b o v hv => ?_, hr m, hb, fun b o y hy hn => by rw [hy] at hn; cases hn⟩
  rw [World.cell?_of_block (w := w) (a := ⟨b, o, none⟩) (hb.block b (hm.lt hv))]
  exact hm b o v hv
theorem Ab.Ret.callsS {P : Program} {f : FuncId} {args : List V} {vs : List Value} {xs : List ByteArray} {T : Nat} (hcall : ∀ ar w, (callFunc f ar).run P w = .ok (.enter f ar) w) (ha : Sames args vs) (hz : ∀ c ∈ xs, c.size ≤ 9223372036854775807)
    (h : ∀ w, Calls P f vs.toArray w fun e w' => ∃ v0 : Value, e = .returned v0 ∧ Kd.R Kd.string T w' w.heap.size (fun _ => True) v0 xs ∧ Below w.heap.size w w') : Ret P f args (.row false (xs.map cS)) := by
  intro m w ys hG hm rv
  rw [sames_repL ha rv]
  unfold CallsX
  rw [hcall]
  refine (h w).mono fun e w' ⟨v0, he, hR, hb⟩ => ?_
  have hok : ∀ b o v, m b o = some v → w'.cell? ⟨b, o, none⟩ = some v := fun b o v hv => by
    rw [World.cell?_of_block (w := w) (a := ⟨b, o, none⟩) (hb.block b (hm.lt hv))]
    exact hm b o v hv
  obtain ⟨_, inner, ⟨hlen, ho⟩, hr⟩ := hR
  rcases ho with ⟨rfl, h0⟩ | ⟨g, cap, cur, rfl, hg, hh, hn, hcm, hsz, htake⟩
  · have hx : xs = [] := List.eq_nil_of_length_eq_zero h0
    subst hx
    exact ⟨_, he, m, fun _ _ _ q => q, hok, Rep.row [] false [] none 0 1 0 0 (fun _ _ => .string ⟨#[]⟩) (fun q => by cases q) (Nat.le_refl _) (by simp) (fun e q => by cases q) (fun q => absurd rfl q) (fun i j e c q => by simp at q) (fun i j e c q => by simp at q), hb, fun b o y hy hn => by rw [hy] at hn; cases hn⟩
  · have hcell : ∀ j p, xs[j]? = some p → w'.cell? ⟨g, j, none⟩ = some (.string p) := fun j p hj => by
      have hlt : j < xs.length := (List.getElem?_eq_some_iff.1 hj).1
      have h3 : (inner.drop (j * 1)).take 1 = [Value.string p] := hr.2 j p hj
      rw [Nat.mul_one] at h3
      have h2 : inner[j]? = some (.string p) := by
        have : ((inner.drop j).take 1)[0]? = some (Value.string p) := by rw [h3]; rfl
        simpa using this
      rw [Lib.cell_of_heap hh]
      rw [← htake, List.getElem?_take, if_pos (by show j < xs.length * 1; omega)] at h2
      simpa using h2
    have hz9 : xs.length ≤ 9223372036854775807 := by unfold maxLen at hcm; omega
    have hlm : (xs.map cS).length = xs.length := List.length_map _
    have el : ∀ {i j : Nat} {e : List V} {c : V}, (xs.map cS)[i]? = some e → e[j]? = some c → ∃ p, xs[i]? = some p ∧ j = 0 ∧ c = .str p := by
      intro i j e c he hc
      rw [List.getElem?_map] at he
      cases hx : xs[i]? with
      | none => rw [hx] at he; cases he
      | some p =>
        rw [hx] at he
        cases he
        cases j with
        | zero => cases hc; exact ⟨p, rfl, rfl, rfl⟩
        | succ j => cases hc
    refine ⟨_, he, fun b o => if b = g then (xs[o]?).map Value.string else m b o, fun b o v hv => ?_, fun b o v hv => ?_, ?_, hb, fun b o y hy hn => ?_⟩
    · have : b ≠ g := fun q => by subst q; have := hm.lt hv; omega
      simp only [if_neg this]
      exact hv
    · dsimp only at hv
      split at hv
      · rename_i q
        subst q
        cases hx : xs[o]? with
        | none => rw [hx] at hv; cases hv
        | some p => rw [hx] at hv; cases hv; exact hcell o p hx
      · exact hok b o v hv
    · have := Rep.row (m := fun b o => if b = g then (xs[o]?).map Value.string else m b o) [] false (xs.map cS) (some ⟨g, 0, none⟩) cap 1 g 0 (fun i _ => ((xs[i]?).map Value.string).getD (.string ⟨#[]⟩)) (fun q => by cases q) (by rw [hlm]; exact hn) (by rw [hlm]; exact hz9)
        (fun e he => by obtain ⟨p, _, rfl⟩ := List.mem_map.1 he; rfl) (fun _ => rfl) (fun i j e c he hc => by
          obtain ⟨p, hp, rfl, rfl⟩ := el he hc
          simp [hp]) (fun i j e c he hc => by
          obtain ⟨p, hp, rfl, rfl⟩ := el he hc
          simp only [hp, Option.map_some, Option.getD_some]
          exact .str [] p (hz p (List.mem_of_getElem? hp)))
      rw [hlm] at this
      exact this
    · dsimp only at hy
      split at hy
      · rename_i q
        subst q
        exact hg
      · rw [hy] at hn
        cases hn
theorem strs_rep {m : Mem} {w : World} (hm : m.ok w) {x : Bool} {l : List ByteArray} {v : Value} (h : Rep m [] (.row x (l.map cS)) v) :
    ∃ A cap, v = .slice A l.length cap ∧ l.length ≤ cap ∧ (l ≠ [] → ∃ b o, A = some ⟨b, o, none⟩ ∧ b < w.heap.size ∧ ∀ j p, l[j]? = some p → w.cell? ⟨b, o + j, none⟩ = some (.string p)) := by
  cases h with
  | row ι x els a cap sz b o g hx hc hlen hs ha hcell hr =>
    rw [List.length_map] at hc
    refine ⟨a, cap, by rw [List.length_map], hc, fun hne => ?_⟩
    have hne' : l.map cS ≠ [] := fun q => hne (List.map_eq_nil_iff.1 q)
    have hsz : sz = 1 := by
      cases l with
      | nil => exact absurd rfl hne
      | cons e l => exact (hs _ List.mem_cons_self).symm
    have cell : ∀ j p, l[j]? = some p → m b (o + j) = some (.string p) := fun j p hj => by
      have he : (l.map cS)[j]? = some [.str p] := by rw [List.getElem?_map, hj]; rfl
      have h1 := hcell j 0 _ _ he rfl
      have h2 := (hr j 0 _ _ he rfl).str_inv.1
      rw [h2, hsz] at h1
      simpa using h1
    refine ⟨b, o, ha hne', ?_, fun j p hj => hm _ _ _ (cell j p hj)⟩
    cases l with
    | nil => exact absurd rfl hne
    | cons e l => exact hm.lt (cell 0 e rfl)
noncomputable def joinB (l : List ByteArray) (sep : ByteArray) : ByteArray := ⟨(Lib.join (l.map (·.data.toList)) sep.data.toList).toArray⟩
theorem Join_c (l : List ByteArray) (sep : ByteArray) (hN : l.length ≤ 140737488355328) (hlen : (Lib.join (l.map (·.data.toList)) sep.data.toList).length ≤ 140737488355328) : Ret Tryz.prog F_strings_Join [.row false (l.map cS), .str sep] (.str (joinB l sep)) := by
  refine Ab.Ret.callsW Tryz.call112 (fits_str (s := joinB l sep) (by show (Lib.join (l.map (·.data.toList)) sep.data.toList).toArray.size ≤ _; simp only [List.size_toArray]; omega)) (fun m w vs hG hm hv => ?_)
  obtain ⟨v, u, rfl⟩ : ∃ v u, vs = [v, u] := by
    have := hv.1
    match vs, this with
    | [v, u], _ => exact ⟨v, u, rfl⟩
  obtain ⟨A, cap, rfl, hc, hC⟩ := strs_rep hm (hv.2 0 _ _ rfl rfl)
  have hu : u = .string sep := (hv.2 1 _ _ rfl rfl).str_inv.1
  subst hu
  by_cases hl : l = []
  · subst hl
    refine (Tryz.strings_Join_none A cap sep w).mono fun e w' ⟨he, hw⟩ => ⟨he, ?_⟩
    rw [hw]
    exact Below.refl _ _
  · obtain ⟨b, o, rfl, hb, hcells⟩ := hC hl
    exact Tryz.strings_Join b o cap l sep w hcells hb hN hc hlen
theorem Chars_c (s : ByteArray) (h : s.size ≤ 8796093022207) : Ret Tryz.prog F_value_Chars [.str s] (.row false ((Vl.chars s).map cS)) := by
  obtain ⟨k, hk⟩ := (Vl.Chars_is h).rounds
  have hz : ∀ c ∈ Vl.chars s, c.size ≤ 9223372036854775807 := by
    have : ∀ m pos, ∀ c ∈ Vl.chs s m pos, c.size ≤ s.size := by
      intro m
      induction m with
      | zero => intro pos c hc; cases hc
      | succ m ih =>
        intro pos c hc
        unfold Vl.chs at hc
        split at hc
        · rcases List.mem_cons.1 hc with rfl | hc
          · rw [ByteArray.size_extract]; omega
          · exact ih _ c hc
        · cases hc
    intro c hc
    have := this _ _ c hc
    omega
  exact Ab.Ret.callsS Tryz.call47 (vs := [.string s]) ⟨same_str s, True.intro⟩ hz (fun w => value_Chars.calls k s _ w hk)
end Go.Proofs.YtcbknemdidehlaaGreatDoor

/- Layer 18's helpers: what is asked, one by one. -/
set_option maxRecDepth 100000
set_option linter.all false
namespace Go.Proofs.YtcbknemdidehlaaGreatDoor
open Ab R
theorem l18_one (v : GV) : Ret Tryz.prog F_octavolaw18_one [eV v] (eA ⟨1, 1, [v], false⟩) := by
  refine r_octavolaw18_one rfl fun hw => ?_
  clear hw
  repeat' ((conv => whnf); (first | refine csp (fun h => ?_) (fun h => ?_) | (refine sda ?_ ?_; (focus (first | rfl | (simp; done)))) | refine sda ?_ ?_ | refine conk rfl ?_ | refine ldk rfl ?_ | refine mapk (fun x hx => ?_) | exact ⟨rfl, rfl⟩ | refine nilk (fun h => ?_) ?_ | intro hl))
  all_goals conv => whnf
  all_goals rfl
theorem l18_number (n : Int) : Ret Tryz.prog F_octavolaw18_number [.int .i64 n] (eA ⟨1, 1, [⟨1, n, e0⟩], false⟩) := by
  refine r_octavolaw18_number rfl fun hw => ?_
  clear hw
  repeat' ((conv => whnf); (first | refine csp (fun h => ?_) (fun h => ?_) | refine cllo (l18_one ⟨1, n, e0⟩) (fun _ => ?_) | (refine sda ?_ ?_; (focus (first | rfl | (simp; done)))) | refine sda ?_ ?_ | refine conk rfl ?_ | refine ldk rfl ?_ | refine mapk (fun x hx => ?_) | exact ⟨rfl, rfl⟩ | refine nilk (fun h => ?_) ?_ | intro hl))
  all_goals conv => whnf
theorem l18_text (s : ByteArray) : Ret Tryz.prog F_octavolaw18_text [.str s] (eA ⟨1, 1, [⟨2, 0, s⟩], false⟩) := by
  refine r_octavolaw18_text rfl fun hw => ?_
  clear hw
  repeat' ((conv => whnf); (first | refine csp (fun h => ?_) (fun h => ?_) | refine cllo (l18_one ⟨2, 0, s⟩) (fun _ => ?_) | (refine sda ?_ ?_; (focus (first | rfl | (simp; done)))) | refine sda ?_ ?_ | refine conk rfl ?_ | refine ldk rfl ?_ | refine mapk (fun x hx => ?_) | exact ⟨rfl, rfl⟩ | refine nilk (fun h => ?_) ?_ | intro hl))
  all_goals conv => whnf
abbrev oA (v : GV) : Ar := ⟨1, 1, [v], false⟩
theorem one_oA {v : GV} (h : goodV v = true) : oneS (oA v) = v := by
  have : goodA (oA v) = true := goodA_yes ⟨by simp [oA], by simp [oA], by simp [oA], by simp [oA], rfl⟩ (by simp [oA, h])
  rw [oneS, if_pos ⟨rfl, this⟩]
  rfl
theorem ToText_s (s : ByteArray) : Ret Tryz.prog F_value_ToText [eV ⟨2, 0, s⟩] (.tup [.str s, .int .i64 0]) := by
  have ht : Ret Tryz.prog F_value_Text [eV ⟨2, 0, s⟩] (.str s) := by
    refine r_value_Text rfl fun hw => ?_
    clear hw
    repeat' ((conv => whnf); (first | refine csp (fun h => ?_) (fun h => ?_) | refine cllo (own2 (v := ⟨2, 0, s⟩) rfl) (fun _ => ?_) | (refine sda ?_ ?_; (focus (first | rfl | (simp; done)))) | refine sda ?_ ?_ | refine conk rfl ?_ | refine ldk rfl ?_ | refine mapk (fun x hx => ?_) | exact ⟨rfl, rfl⟩ | refine nilk (fun h => ?_) ?_ | intro hl))
    all_goals conv => whnf
    all_goals rfl
  refine r_value_ToText rfl fun hw => ?_
  clear hw
  repeat' ((conv => whnf); (first | refine csp (fun h => ?_) (fun h => ?_) | refine cllo (own2 (v := ⟨2, 0, s⟩) rfl) (fun _ => ?_) | refine cllo (ht) (fun _ => ?_) | (refine sda ?_ ?_; (focus (first | rfl | (simp; done)))) | refine sda ?_ ?_ | refine conk rfl ?_ | refine ldk rfl ?_ | refine mapk (fun x hx => ?_) | exact ⟨rfl, rfl⟩ | refine nilk (fun h => ?_) ?_ | intro hl))
  all_goals conv => whnf
  all_goals rfl
theorem ToNum_n (n : Int) : Ret Tryz.prog F_value_ToNum [eV ⟨1, n, e0⟩] (.tup [.int .i64 n, .int .i64 0]) := value_ToNum ⟨1, n, e0⟩ (by simp)
/-- A whole number of a good size. -/
theorem Whole_n (k : Int) (h : -10000000 ≤ k ∧ k ≤ 10000000) : Ret Tryz.prog F_num_Whole [.int .i64 (k * 10000)] (.tup [.int .i64 k, .bool true]) := by
  have := num_Whole (k * 10000)
  have e : wholeS (k * 10000) = (k, true) := by
    rw [wholeS, if_pos ⟨by simp only [goodN, decide_eq_true_eq]; omega, by rw [Int.mul_tmod_left]⟩, Int.mul_tdiv_cancel _ (by decide)]
  rwa [e] at this
theorem good_s {s : ByteArray} (h : s.size ≤ 255) : goodV ⟨2, 0, s⟩ = true := by simp [goodV, h]
theorem good_n {n : Int} (h : -100000000000 ≤ n ∧ n ≤ 100000000000) : goodV ⟨1, n, e0⟩ = true := by simp [goodV, goodN, h]
def strS (s : ByteArray) : GV := if s.size > 255 then badS 2 else ⟨2, 0, s⟩
theorem value_Str (s : ByteArray) : Ret Tryz.prog F_value_Str [.str s] (eV (strS s)) := by
  refine r_value_Str rfl fun hw => ?_
  clear hw
  repeat' ((conv => whnf); (first | refine csp (fun h => ?_) (fun h => ?_) | refine cllo (value_Bad _) (fun _ => ?_) | (refine sda ?_ ?_; (focus (first | rfl | (simp; done)))) | refine sda ?_ ?_ | refine conk rfl ?_ | refine ldk rfl ?_ | refine mapk (fun x hx => ?_) | exact ⟨rfl, rfl⟩ | refine nilk (fun h => ?_) ?_ | intro hl))
  all_goals conv => whnf
  all_goals try simp only [tz] at *
  · rw [strS, if_pos (by omega)]
  · rw [strS, if_neg (by omega)]
theorem next_1 (a : Ar) (ls : List Ar) : RetL Tryz.prog F_texts_asked_next [.ptr 0 0] [.box true [.row false (cA a :: ls.map cA), .int .i64 0]] (.tup [eV (oneS a), .bool true]) [.box true [.row false (ls.map cA), .int .i64 0]] := by
  refine rl_texts_asked_next rfl fun hw _ => ?_
  clear hw
  repeat' ((conv => whnf); (first | refine Bth.mk ?_ ?_ | refine pickk0 ?_ | refine csp (fun h => ?_) (fun h => ?_) | refine cllo (maths_One a) (fun _ => ?_) | (refine sda ?_ ?_; (focus (first | rfl | exact of_decide_eq_true rfl | (simp; done)))) | refine sda ?_ ?_ | refine conk rfl ?_ | refine ldk rfl ?_ | refine mapk (fun x hx => ?_) | exact ⟨rfl, rfl⟩ | refine nilk (fun h => absurd h (of_decide_eq_false rfl)) ?_ | refine nilk (fun h => absurd h (List.cons_ne_nil _ _)) ?_ | refine nilk (fun h => ?_) ?_ | exact rfl | exact True.intro | refine leftk1 rfl ?_ | refine bytk8 rfl ?_ | refine bytk rfl ?_ | exact leftk0 rfl | refine eqk rfl ?_ | refine fLm rfl ?_ | refine fLk (by assumption) ?_ | refine fVk ?_ | refine fLVk ?_ | refine fWk ?_ | intro hl))
  all_goals conv => whnf
  · simp
    omega
  · rcases List.mem_cons.1 hl with rfl | he
    · rfl
    · obtain ⟨x, _, rfl⟩ := List.mem_map.1 he
      rfl
  · simp
    exact List.take_of_length_le (by simp)
theorem text_c (s : ByteArray) (h : s.size ≤ 255) (ls : List Ar) : RetL Tryz.prog F_texts_asked_text [.ptr 0 0] [.box true [.row false (cA (oA ⟨2, 0, s⟩) :: ls.map cA), .int .i64 0]] (.str s) [.box true [.row false (ls.map cA), .int .i64 0]] := by
  have hn := next_1 (oA ⟨2, 0, s⟩) ls
  rw [one_oA (good_s h)] at hn
  refine rl_texts_asked_text rfl fun hw _ => ?_
  clear hw
  repeat' ((conv => whnf); (first | refine Bth.mk ?_ ?_ | refine pickk0 ?_ | refine csp (fun h => ?_) (fun h => ?_) | refine clll (RetL.frame (hn) _ [0] rfl (by simp) rfl rfl) (fun _ _ => ?_) | refine cllo (ToText_s s) (fun _ => ?_) | (refine sda ?_ ?_; (focus (first | rfl | exact of_decide_eq_true rfl | (simp; done)))) | refine sda ?_ ?_ | refine conk rfl ?_ | refine ldk rfl ?_ | refine mapk (fun x hx => ?_) | exact ⟨rfl, rfl⟩ | refine nilk (fun h => absurd h (of_decide_eq_false rfl)) ?_ | refine nilk (fun h => absurd h (List.cons_ne_nil _ _)) ?_ | refine nilk (fun h => ?_) ?_ | exact rfl | exact True.intro | refine leftk1 rfl ?_ | refine bytk8 rfl ?_ | refine bytk rfl ?_ | exact leftk0 rfl | refine eqk rfl ?_ | refine fLm rfl ?_ | refine fLk (by assumption) ?_ | refine fVk ?_ | refine fLVk ?_ | refine fWk ?_ | intro hl))
  all_goals conv => whnf
  all_goals exact ⟨rfl, rfl⟩
theorem number_c (n : Int) (h : -100000000000 ≤ n ∧ n ≤ 100000000000) (ls : List Ar) : RetL Tryz.prog F_texts_asked_number [.ptr 0 0] [.box true [.row false (cA (oA ⟨1, n, e0⟩) :: ls.map cA), .int .i64 0]] (.int .i64 n) [.box true [.row false (ls.map cA), .int .i64 0]] := by
  have hn := next_1 (oA ⟨1, n, e0⟩) ls
  rw [one_oA (good_n h)] at hn
  refine rl_texts_asked_number rfl fun hw _ => ?_
  clear hw
  repeat' ((conv => whnf); (first | refine Bth.mk ?_ ?_ | refine pickk0 ?_ | refine csp (fun h => ?_) (fun h => ?_) | refine clll (RetL.frame (hn) _ [0] rfl (by simp) rfl rfl) (fun _ _ => ?_) | refine cllo (ToNum_n n) (fun _ => ?_) | (refine sda ?_ ?_; (focus (first | rfl | exact of_decide_eq_true rfl | (simp; done)))) | refine sda ?_ ?_ | refine conk rfl ?_ | refine ldk rfl ?_ | refine mapk (fun x hx => ?_) | exact ⟨rfl, rfl⟩ | refine nilk (fun h => absurd h (of_decide_eq_false rfl)) ?_ | refine nilk (fun h => absurd h (List.cons_ne_nil _ _)) ?_ | refine nilk (fun h => ?_) ?_ | exact rfl | exact True.intro | refine leftk1 rfl ?_ | refine bytk8 rfl ?_ | refine bytk rfl ?_ | exact leftk0 rfl | refine eqk rfl ?_ | refine fLm rfl ?_ | refine fLk (by assumption) ?_ | refine fVk ?_ | refine fLVk ?_ | refine fWk ?_ | intro hl))
  all_goals conv => whnf
  all_goals exact ⟨rfl, rfl⟩
theorem whole_c (k d : Int) (h : -10000000 ≤ k ∧ k ≤ 10000000) (ls : List Ar) : RetL Tryz.prog F_texts_asked_whole [.ptr 0 0, .int .i64 d] [.box true [.row false (cA (oA ⟨1, k * 10000, e0⟩) :: ls.map cA), .int .i64 0]] (.int .i64 k) [.box true [.row false (ls.map cA), .int .i64 0]] := by
  have hn := number_c (k * 10000) (by omega) ls
  refine rl_texts_asked_whole rfl fun hw _ => ?_
  clear hw
  repeat' ((conv => whnf); (first | refine Bth.mk ?_ ?_ | refine pickk0 ?_ | refine csp (fun h => ?_) (fun h => ?_) | refine clll (RetL.frame (hn) _ [0] rfl (by simp) rfl rfl) (fun _ _ => ?_) | refine cllo (Whole_n k h) (fun _ => ?_) | (refine sda ?_ ?_; (focus (first | rfl | exact of_decide_eq_true rfl | (simp; done)))) | refine sda ?_ ?_ | refine conk rfl ?_ | refine ldk rfl ?_ | refine mapk (fun x hx => ?_) | exact ⟨rfl, rfl⟩ | refine nilk (fun h => absurd h (of_decide_eq_false rfl)) ?_ | refine nilk (fun h => absurd h (List.cons_ne_nil _ _)) ?_ | refine nilk (fun h => ?_) ?_ | exact rfl | exact True.intro | refine leftk1 rfl ?_ | refine bytk8 rfl ?_ | refine bytk rfl ?_ | exact leftk0 rfl | refine eqk rfl ?_ | refine fLm rfl ?_ | refine fLk (by assumption) ?_ | refine fVk ?_ | refine fLVk ?_ | refine fWk ?_ | intro hl))
  all_goals conv => whnf
  all_goals first | exact ⟨rfl, rfl⟩ | skip
  all_goals simp at *
theorem whole_0 (d : Int) : RetL Tryz.prog F_texts_asked_whole [.ptr 0 0, .int .i64 d] [.box true [.row false [], .int .i64 0]] (.int .i64 d) [.box true [.row false [], .int .i64 0]] := by
  refine rl_texts_asked_whole rfl fun hw _ => ?_
  clear hw
  repeat' ((conv => whnf); (first | refine Bth.mk ?_ ?_ | refine pickk0 ?_ | refine csp (fun h => ?_) (fun h => ?_) | (refine sda ?_ ?_; (focus (first | rfl | exact of_decide_eq_true rfl | (simp; done)))) | refine sda ?_ ?_ | refine conk rfl ?_ | refine ldk rfl ?_ | refine mapk (fun x hx => ?_) | exact ⟨rfl, rfl⟩ | refine nilk (fun h => absurd h (of_decide_eq_false rfl)) ?_ | refine nilk (fun h => absurd h (List.cons_ne_nil _ _)) ?_ | refine nilk (fun h => ?_) ?_ | exact rfl | exact True.intro | refine leftk1 rfl ?_ | refine bytk8 rfl ?_ | refine bytk rfl ?_ | exact leftk0 rfl | refine eqk rfl ?_ | refine fLm rfl ?_ | refine fLk (by assumption) ?_ | refine fVk ?_ | refine fLVk ?_ | refine fWk ?_ | intro hl))
  all_goals conv => whnf
  all_goals exact ⟨rfl, rfl⟩
theorem chars_len (s : ByteArray) : (Vl.chars s).length ≤ s.size := Vl.chs_len s s.size 0
end Go.Proofs.YtcbknemdidehlaaGreatDoor

/- Layer 18: what there is of each name. -/
set_option maxRecDepth 100000
set_option linter.all false
namespace Go.Proofs.YtcbknemdidehlaaGreatDoor
open Ab R
theorem fnd_PROPER : Ret Tryz.prog F_texts_find [.str ⟨#[80, 82, 79, 80, 69, 82]⟩] (.tup [.fn F_texts_texted_1 [] [.elem [.fn F_texts_made_1 [] [.elem [.fn F_texts_proper [] []]]]], .int .i64 1, .int .i64 1]) := by
  refine r_texts_find rfl fun hw => ?_
  clear hw
  repeat' ((conv => whnf); (first | refine Bth.mk ?_ ?_ | refine pickk0 ?_ | refine csp (fun h => ?_) (fun h => ?_) | (apply clqi; apply rq_texts_ends rfl) | (apply clqi; apply rq_texts_texted rfl) | (apply clqi; apply rq_texts_made rfl) | (apply clqi; apply rq_texts_finds rfl) | (refine sda ?_ ?_; (focus (first | rfl | exact of_decide_eq_true rfl | (simp; done)))) | refine sda ?_ ?_ | refine conk rfl ?_ | refine ldk rfl ?_ | refine mapk (fun x hx => ?_) | exact ⟨rfl, rfl⟩ | refine nilk (fun h => absurd h (of_decide_eq_false rfl)) ?_ | refine nilk (fun h => absurd h (List.cons_ne_nil _ _)) ?_ | refine nilk (fun h => ?_) ?_ | exact rfl | exact True.intro | refine leftk1 rfl ?_ | refine bytk8 rfl ?_ | refine bytk rfl ?_ | exact leftk0 rfl | refine eqk rfl ?_ | refine fLm rfl ?_ | refine fLk (by assumption) ?_ | refine fVk ?_ | refine fLVk ?_ | refine fWk ?_ | intro hl))
  all_goals conv => whnf
  all_goals rfl
theorem ask_PROPER (a : Ar) (r : GV) (z : V) (hz : z = .row false []) (hr : RetL Tryz.prog F_texts_texted_1 [.ptr 0 0, .elem [.fn F_texts_made_1 [] [.elem [.fn F_texts_proper [] []]]]] [.box true [.row false [cA a], .int .i64 0]] (eV r) [.box true [z, .int .i64 0]]) :
    Ret Tryz.prog F_octavolaw18_ask [.str ⟨#[80, 82, 79, 80, 69, 82]⟩, .row false [cA a]] (eV r) := by
  have hc : Ret Tryz.prog F_texts_Call [.str ⟨#[80, 82, 79, 80, 69, 82]⟩, .row false [cA a]] (.tup [eV r, .bool true]) := by
    subst hz
    refine r_texts_Call rfl fun hw => ?_
    clear hw
    repeat' ((conv => whnf); (first | refine Bth.mk ?_ ?_ | refine pickk0 ?_ | refine csp (fun h => ?_) (fun h => ?_) | refine cllo (fnd_PROPER) (fun _ => ?_) | refine clll (RetL.frame hr _ [1] rfl (by simp) rfl rfl) (fun _ _ => ?_) | (refine sda ?_ ?_; (focus (first | rfl | exact of_decide_eq_true rfl | (simp; done)))) | refine sda ?_ ?_ | refine conk rfl ?_ | refine ldk rfl ?_ | refine mapk (fun x hx => ?_) | exact ⟨rfl, rfl⟩ | refine nilk (fun h => absurd h (of_decide_eq_false rfl)) ?_ | refine nilk (fun h => absurd h (List.cons_ne_nil _ _)) ?_ | refine nilk (fun h => ?_) ?_ | exact rfl | exact True.intro | refine leftk1 rfl ?_ | refine bytk8 rfl ?_ | refine bytk rfl ?_ | exact leftk0 rfl | refine eqk rfl ?_ | refine fLm rfl ?_ | refine fLk (by assumption) ?_ | refine fVk ?_ | refine fLVk ?_ | refine fWk ?_ | intro hl))
    all_goals conv => whnf
  refine r_octavolaw18_ask rfl fun hw => ?_
  clear hw
  repeat' ((conv => whnf); (first | refine Bth.mk ?_ ?_ | refine pickk0 ?_ | refine csp (fun h => ?_) (fun h => ?_) | refine cllo (hc) (fun _ => ?_) | (refine sda ?_ ?_; (focus (first | rfl | exact of_decide_eq_true rfl | (simp; done)))) | refine sda ?_ ?_ | refine conk rfl ?_ | refine ldk rfl ?_ | refine mapk (fun x hx => ?_) | exact ⟨rfl, rfl⟩ | refine nilk (fun h => absurd h (of_decide_eq_false rfl)) ?_ | refine nilk (fun h => absurd h (List.cons_ne_nil _ _)) ?_ | refine nilk (fun h => ?_) ?_ | exact rfl | exact True.intro | refine leftk1 rfl ?_ | refine bytk8 rfl ?_ | refine bytk rfl ?_ | exact leftk0 rfl | refine eqk rfl ?_ | refine fLm rfl ?_ | refine fLk (by assumption) ?_ | refine fVk ?_ | refine fLVk ?_ | refine fWk ?_ | intro hl))
  all_goals conv => whnf
theorem fnd_LEFT : Ret Tryz.prog F_texts_find [.str ⟨#[76, 69, 70, 84]⟩] (.tup [.fn F_texts_ends_1 [] [.elem [.bool true]], .int .i64 1, .int .i64 2]) := by
  refine r_texts_find rfl fun hw => ?_
  clear hw
  repeat' ((conv => whnf); (first | refine Bth.mk ?_ ?_ | refine pickk0 ?_ | refine csp (fun h => ?_) (fun h => ?_) | (apply clqi; apply rq_texts_ends rfl) | (apply clqi; apply rq_texts_texted rfl) | (apply clqi; apply rq_texts_made rfl) | (apply clqi; apply rq_texts_finds rfl) | (refine sda ?_ ?_; (focus (first | rfl | exact of_decide_eq_true rfl | (simp; done)))) | refine sda ?_ ?_ | refine conk rfl ?_ | refine ldk rfl ?_ | refine mapk (fun x hx => ?_) | exact ⟨rfl, rfl⟩ | refine nilk (fun h => absurd h (of_decide_eq_false rfl)) ?_ | refine nilk (fun h => absurd h (List.cons_ne_nil _ _)) ?_ | refine nilk (fun h => ?_) ?_ | exact rfl | exact True.intro | refine leftk1 rfl ?_ | refine bytk8 rfl ?_ | refine bytk rfl ?_ | exact leftk0 rfl | refine eqk rfl ?_ | refine fLm rfl ?_ | refine fLk (by assumption) ?_ | refine fVk ?_ | refine fLVk ?_ | refine fWk ?_ | intro hl))
  all_goals conv => whnf
  all_goals rfl
theorem ask_LEFT (a b : Ar) (r : GV) (z : V) (hz : z = .row false []) (hr : RetL Tryz.prog F_texts_ends_1 [.ptr 0 0, .elem [.bool true]] [.box true [.row false [cA a, cA b], .int .i64 0]] (eV r) [.box true [z, .int .i64 0]]) :
    Ret Tryz.prog F_octavolaw18_ask [.str ⟨#[76, 69, 70, 84]⟩, .row false [cA a, cA b]] (eV r) := by
  have hc : Ret Tryz.prog F_texts_Call [.str ⟨#[76, 69, 70, 84]⟩, .row false [cA a, cA b]] (.tup [eV r, .bool true]) := by
    subst hz
    refine r_texts_Call rfl fun hw => ?_
    clear hw
    repeat' ((conv => whnf); (first | refine Bth.mk ?_ ?_ | refine pickk0 ?_ | refine csp (fun h => ?_) (fun h => ?_) | refine cllo (fnd_LEFT) (fun _ => ?_) | refine clll (RetL.frame hr _ [1] rfl (by simp) rfl rfl) (fun _ _ => ?_) | (refine sda ?_ ?_; (focus (first | rfl | exact of_decide_eq_true rfl | (simp; done)))) | refine sda ?_ ?_ | refine conk rfl ?_ | refine ldk rfl ?_ | refine mapk (fun x hx => ?_) | exact ⟨rfl, rfl⟩ | refine nilk (fun h => absurd h (of_decide_eq_false rfl)) ?_ | refine nilk (fun h => absurd h (List.cons_ne_nil _ _)) ?_ | refine nilk (fun h => ?_) ?_ | exact rfl | exact True.intro | refine leftk1 rfl ?_ | refine bytk8 rfl ?_ | refine bytk rfl ?_ | exact leftk0 rfl | refine eqk rfl ?_ | refine fLm rfl ?_ | refine fLk (by assumption) ?_ | refine fVk ?_ | refine fLVk ?_ | refine fWk ?_ | intro hl))
    all_goals conv => whnf
  refine r_octavolaw18_ask rfl fun hw => ?_
  clear hw
  repeat' ((conv => whnf); (first | refine Bth.mk ?_ ?_ | refine pickk0 ?_ | refine csp (fun h => ?_) (fun h => ?_) | refine cllo (hc) (fun _ => ?_) | (refine sda ?_ ?_; (focus (first | rfl | exact of_decide_eq_true rfl | (simp; done)))) | refine sda ?_ ?_ | refine conk rfl ?_ | refine ldk rfl ?_ | refine mapk (fun x hx => ?_) | exact ⟨rfl, rfl⟩ | refine nilk (fun h => absurd h (of_decide_eq_false rfl)) ?_ | refine nilk (fun h => absurd h (List.cons_ne_nil _ _)) ?_ | refine nilk (fun h => ?_) ?_ | exact rfl | exact True.intro | refine leftk1 rfl ?_ | refine bytk8 rfl ?_ | refine bytk rfl ?_ | exact leftk0 rfl | refine eqk rfl ?_ | refine fLm rfl ?_ | refine fLk (by assumption) ?_ | refine fVk ?_ | refine fLVk ?_ | refine fWk ?_ | intro hl))
  all_goals conv => whnf
theorem fnd_MID : Ret Tryz.prog F_texts_find [.str ⟨#[77, 73, 68]⟩] (.tup [.fn F_texts_mid [] [], .int .i64 3, .int .i64 3]) := by
  refine r_texts_find rfl fun hw => ?_
  clear hw
  repeat' ((conv => whnf); (first | refine Bth.mk ?_ ?_ | refine pickk0 ?_ | refine csp (fun h => ?_) (fun h => ?_) | (apply clqi; apply rq_texts_ends rfl) | (apply clqi; apply rq_texts_texted rfl) | (apply clqi; apply rq_texts_made rfl) | (apply clqi; apply rq_texts_finds rfl) | (refine sda ?_ ?_; (focus (first | rfl | exact of_decide_eq_true rfl | (simp; done)))) | refine sda ?_ ?_ | refine conk rfl ?_ | refine ldk rfl ?_ | refine mapk (fun x hx => ?_) | exact ⟨rfl, rfl⟩ | refine nilk (fun h => absurd h (of_decide_eq_false rfl)) ?_ | refine nilk (fun h => absurd h (List.cons_ne_nil _ _)) ?_ | refine nilk (fun h => ?_) ?_ | exact rfl | exact True.intro | refine leftk1 rfl ?_ | refine bytk8 rfl ?_ | refine bytk rfl ?_ | exact leftk0 rfl | refine eqk rfl ?_ | refine fLm rfl ?_ | refine fLk (by assumption) ?_ | refine fVk ?_ | refine fLVk ?_ | refine fWk ?_ | intro hl))
  all_goals conv => whnf
  all_goals rfl
theorem ask_MID (a b c : Ar) (r : GV) (z : V) (hz : z = .row false []) (hr : RetL Tryz.prog F_texts_mid [.ptr 0 0] [.box true [.row false [cA a, cA b, cA c], .int .i64 0]] (eV r) [.box true [z, .int .i64 0]]) :
    Ret Tryz.prog F_octavolaw18_ask [.str ⟨#[77, 73, 68]⟩, .row false [cA a, cA b, cA c]] (eV r) := by
  have hc : Ret Tryz.prog F_texts_Call [.str ⟨#[77, 73, 68]⟩, .row false [cA a, cA b, cA c]] (.tup [eV r, .bool true]) := by
    subst hz
    refine r_texts_Call rfl fun hw => ?_
    clear hw
    repeat' ((conv => whnf); (first | refine Bth.mk ?_ ?_ | refine pickk0 ?_ | refine csp (fun h => ?_) (fun h => ?_) | refine cllo (fnd_MID) (fun _ => ?_) | refine clll (RetL.frame hr _ [1] rfl (by simp) rfl rfl) (fun _ _ => ?_) | (refine sda ?_ ?_; (focus (first | rfl | exact of_decide_eq_true rfl | (simp; done)))) | refine sda ?_ ?_ | refine conk rfl ?_ | refine ldk rfl ?_ | refine mapk (fun x hx => ?_) | exact ⟨rfl, rfl⟩ | refine nilk (fun h => absurd h (of_decide_eq_false rfl)) ?_ | refine nilk (fun h => absurd h (List.cons_ne_nil _ _)) ?_ | refine nilk (fun h => ?_) ?_ | exact rfl | exact True.intro | refine leftk1 rfl ?_ | refine bytk8 rfl ?_ | refine bytk rfl ?_ | exact leftk0 rfl | refine eqk rfl ?_ | refine fLm rfl ?_ | refine fLk (by assumption) ?_ | refine fVk ?_ | refine fLVk ?_ | refine fWk ?_ | intro hl))
    all_goals conv => whnf
  refine r_octavolaw18_ask rfl fun hw => ?_
  clear hw
  repeat' ((conv => whnf); (first | refine Bth.mk ?_ ?_ | refine pickk0 ?_ | refine csp (fun h => ?_) (fun h => ?_) | refine cllo (hc) (fun _ => ?_) | (refine sda ?_ ?_; (focus (first | rfl | exact of_decide_eq_true rfl | (simp; done)))) | refine sda ?_ ?_ | refine conk rfl ?_ | refine ldk rfl ?_ | refine mapk (fun x hx => ?_) | exact ⟨rfl, rfl⟩ | refine nilk (fun h => absurd h (of_decide_eq_false rfl)) ?_ | refine nilk (fun h => absurd h (List.cons_ne_nil _ _)) ?_ | refine nilk (fun h => ?_) ?_ | exact rfl | exact True.intro | refine leftk1 rfl ?_ | refine bytk8 rfl ?_ | refine bytk rfl ?_ | exact leftk0 rfl | refine eqk rfl ?_ | refine fLm rfl ?_ | refine fLk (by assumption) ?_ | refine fVk ?_ | refine fLVk ?_ | refine fWk ?_ | intro hl))
  all_goals conv => whnf
theorem fnd_FIND : Ret Tryz.prog F_texts_find [.str ⟨#[70, 73, 78, 68]⟩] (.tup [.fn F_texts_finds_1 [] [.elem [.fn F_texts_find_6 [] []]], .int .i64 2, .int .i64 3]) := by
  refine r_texts_find rfl fun hw => ?_
  clear hw
  repeat' ((conv => whnf); (first | refine Bth.mk ?_ ?_ | refine pickk0 ?_ | refine csp (fun h => ?_) (fun h => ?_) | (apply clqi; apply rq_texts_ends rfl) | (apply clqi; apply rq_texts_texted rfl) | (apply clqi; apply rq_texts_made rfl) | (apply clqi; apply rq_texts_finds rfl) | (refine sda ?_ ?_; (focus (first | rfl | exact of_decide_eq_true rfl | (simp; done)))) | refine sda ?_ ?_ | refine conk rfl ?_ | refine ldk rfl ?_ | refine mapk (fun x hx => ?_) | exact ⟨rfl, rfl⟩ | refine nilk (fun h => absurd h (of_decide_eq_false rfl)) ?_ | refine nilk (fun h => absurd h (List.cons_ne_nil _ _)) ?_ | refine nilk (fun h => ?_) ?_ | exact rfl | exact True.intro | refine leftk1 rfl ?_ | refine bytk8 rfl ?_ | refine bytk rfl ?_ | exact leftk0 rfl | refine eqk rfl ?_ | refine fLm rfl ?_ | refine fLk (by assumption) ?_ | refine fVk ?_ | refine fLVk ?_ | refine fWk ?_ | intro hl))
  all_goals conv => whnf
  all_goals rfl
theorem ask_FIND (a b : Ar) (r : GV) (z : V) (hz : z = .row false []) (hr : RetL Tryz.prog F_texts_finds_1 [.ptr 0 0, .elem [.fn F_texts_find_6 [] []]] [.box true [.row false [cA a, cA b], .int .i64 0]] (eV r) [.box true [z, .int .i64 0]]) :
    Ret Tryz.prog F_octavolaw18_ask [.str ⟨#[70, 73, 78, 68]⟩, .row false [cA a, cA b]] (eV r) := by
  have hc : Ret Tryz.prog F_texts_Call [.str ⟨#[70, 73, 78, 68]⟩, .row false [cA a, cA b]] (.tup [eV r, .bool true]) := by
    subst hz
    refine r_texts_Call rfl fun hw => ?_
    clear hw
    repeat' ((conv => whnf); (first | refine Bth.mk ?_ ?_ | refine pickk0 ?_ | refine csp (fun h => ?_) (fun h => ?_) | refine cllo (fnd_FIND) (fun _ => ?_) | refine clll (RetL.frame hr _ [1] rfl (by simp) rfl rfl) (fun _ _ => ?_) | (refine sda ?_ ?_; (focus (first | rfl | exact of_decide_eq_true rfl | (simp; done)))) | refine sda ?_ ?_ | refine conk rfl ?_ | refine ldk rfl ?_ | refine mapk (fun x hx => ?_) | exact ⟨rfl, rfl⟩ | refine nilk (fun h => absurd h (of_decide_eq_false rfl)) ?_ | refine nilk (fun h => absurd h (List.cons_ne_nil _ _)) ?_ | refine nilk (fun h => ?_) ?_ | exact rfl | exact True.intro | refine leftk1 rfl ?_ | refine bytk8 rfl ?_ | refine bytk rfl ?_ | exact leftk0 rfl | refine eqk rfl ?_ | refine fLm rfl ?_ | refine fLk (by assumption) ?_ | refine fVk ?_ | refine fLVk ?_ | refine fWk ?_ | intro hl))
    all_goals conv => whnf
  refine r_octavolaw18_ask rfl fun hw => ?_
  clear hw
  repeat' ((conv => whnf); (first | refine Bth.mk ?_ ?_ | refine pickk0 ?_ | refine csp (fun h => ?_) (fun h => ?_) | refine cllo (hc) (fun _ => ?_) | (refine sda ?_ ?_; (focus (first | rfl | exact of_decide_eq_true rfl | (simp; done)))) | refine sda ?_ ?_ | refine conk rfl ?_ | refine ldk rfl ?_ | refine mapk (fun x hx => ?_) | exact ⟨rfl, rfl⟩ | refine nilk (fun h => absurd h (of_decide_eq_false rfl)) ?_ | refine nilk (fun h => absurd h (List.cons_ne_nil _ _)) ?_ | refine nilk (fun h => ?_) ?_ | exact rfl | exact True.intro | refine leftk1 rfl ?_ | refine bytk8 rfl ?_ | refine bytk rfl ?_ | exact leftk0 rfl | refine eqk rfl ?_ | refine fLm rfl ?_ | refine fLk (by assumption) ?_ | refine fVk ?_ | refine fLVk ?_ | refine fWk ?_ | intro hl))
  all_goals conv => whnf
theorem fnd_SUBSTITUTE : Ret Tryz.prog F_texts_find [.str ⟨#[83, 85, 66, 83, 84, 73, 84, 85, 84, 69]⟩] (.tup [.fn F_texts_substitute [] [], .int .i64 3, .int .i64 4]) := by
  refine r_texts_find rfl fun hw => ?_
  clear hw
  repeat' ((conv => whnf); (first | refine Bth.mk ?_ ?_ | refine pickk0 ?_ | refine csp (fun h => ?_) (fun h => ?_) | (apply clqi; apply rq_texts_ends rfl) | (apply clqi; apply rq_texts_texted rfl) | (apply clqi; apply rq_texts_made rfl) | (apply clqi; apply rq_texts_finds rfl) | (refine sda ?_ ?_; (focus (first | rfl | exact of_decide_eq_true rfl | (simp; done)))) | refine sda ?_ ?_ | refine conk rfl ?_ | refine ldk rfl ?_ | refine mapk (fun x hx => ?_) | exact ⟨rfl, rfl⟩ | refine nilk (fun h => absurd h (of_decide_eq_false rfl)) ?_ | refine nilk (fun h => absurd h (List.cons_ne_nil _ _)) ?_ | refine nilk (fun h => ?_) ?_ | exact rfl | exact True.intro | refine leftk1 rfl ?_ | refine bytk8 rfl ?_ | refine bytk rfl ?_ | exact leftk0 rfl | refine eqk rfl ?_ | refine fLm rfl ?_ | refine fLk (by assumption) ?_ | refine fVk ?_ | refine fLVk ?_ | refine fWk ?_ | intro hl))
  all_goals conv => whnf
  all_goals rfl
theorem ask_SUBSTITUTE (a b c : Ar) (r : GV) (z : V) (hz : z = .row false []) (hr : RetL Tryz.prog F_texts_substitute [.ptr 0 0] [.box true [.row false [cA a, cA b, cA c], .int .i64 0]] (eV r) [.box true [z, .int .i64 0]]) :
    Ret Tryz.prog F_octavolaw18_ask [.str ⟨#[83, 85, 66, 83, 84, 73, 84, 85, 84, 69]⟩, .row false [cA a, cA b, cA c]] (eV r) := by
  have hc : Ret Tryz.prog F_texts_Call [.str ⟨#[83, 85, 66, 83, 84, 73, 84, 85, 84, 69]⟩, .row false [cA a, cA b, cA c]] (.tup [eV r, .bool true]) := by
    subst hz
    refine r_texts_Call rfl fun hw => ?_
    clear hw
    repeat' ((conv => whnf); (first | refine Bth.mk ?_ ?_ | refine pickk0 ?_ | refine csp (fun h => ?_) (fun h => ?_) | refine cllo (fnd_SUBSTITUTE) (fun _ => ?_) | refine clll (RetL.frame hr _ [1] rfl (by simp) rfl rfl) (fun _ _ => ?_) | (refine sda ?_ ?_; (focus (first | rfl | exact of_decide_eq_true rfl | (simp; done)))) | refine sda ?_ ?_ | refine conk rfl ?_ | refine ldk rfl ?_ | refine mapk (fun x hx => ?_) | exact ⟨rfl, rfl⟩ | refine nilk (fun h => absurd h (of_decide_eq_false rfl)) ?_ | refine nilk (fun h => absurd h (List.cons_ne_nil _ _)) ?_ | refine nilk (fun h => ?_) ?_ | exact rfl | exact True.intro | refine leftk1 rfl ?_ | refine bytk8 rfl ?_ | refine bytk rfl ?_ | exact leftk0 rfl | refine eqk rfl ?_ | refine fLm rfl ?_ | refine fLk (by assumption) ?_ | refine fVk ?_ | refine fLVk ?_ | refine fWk ?_ | intro hl))
    all_goals conv => whnf
  refine r_octavolaw18_ask rfl fun hw => ?_
  clear hw
  repeat' ((conv => whnf); (first | refine Bth.mk ?_ ?_ | refine pickk0 ?_ | refine csp (fun h => ?_) (fun h => ?_) | refine cllo (hc) (fun _ => ?_) | (refine sda ?_ ?_; (focus (first | rfl | exact of_decide_eq_true rfl | (simp; done)))) | refine sda ?_ ?_ | refine conk rfl ?_ | refine ldk rfl ?_ | refine mapk (fun x hx => ?_) | exact ⟨rfl, rfl⟩ | refine nilk (fun h => absurd h (of_decide_eq_false rfl)) ?_ | refine nilk (fun h => absurd h (List.cons_ne_nil _ _)) ?_ | refine nilk (fun h => ?_) ?_ | exact rfl | exact True.intro | refine leftk1 rfl ?_ | refine bytk8 rfl ?_ | refine bytk rfl ?_ | exact leftk0 rfl | refine eqk rfl ?_ | refine fLm rfl ?_ | refine fLk (by assumption) ?_ | refine fVk ?_ | refine fLVk ?_ | refine fWk ?_ | intro hl))
  all_goals conv => whnf
theorem fnd_FIXED : Ret Tryz.prog F_texts_find [.str ⟨#[70, 73, 88, 69, 68]⟩] (.tup [.fn F_texts_fixed [] [], .int .i64 1, .int .i64 2]) := by
  refine r_texts_find rfl fun hw => ?_
  clear hw
  repeat' ((conv => whnf); (first | refine Bth.mk ?_ ?_ | refine pickk0 ?_ | refine csp (fun h => ?_) (fun h => ?_) | (apply clqi; apply rq_texts_ends rfl) | (apply clqi; apply rq_texts_texted rfl) | (apply clqi; apply rq_texts_made rfl) | (apply clqi; apply rq_texts_finds rfl) | (refine sda ?_ ?_; (focus (first | rfl | exact of_decide_eq_true rfl | (simp; done)))) | refine sda ?_ ?_ | refine conk rfl ?_ | refine ldk rfl ?_ | refine mapk (fun x hx => ?_) | exact ⟨rfl, rfl⟩ | refine nilk (fun h => absurd h (of_decide_eq_false rfl)) ?_ | refine nilk (fun h => absurd h (List.cons_ne_nil _ _)) ?_ | refine nilk (fun h => ?_) ?_ | exact rfl | exact True.intro | refine leftk1 rfl ?_ | refine bytk8 rfl ?_ | refine bytk rfl ?_ | exact leftk0 rfl | refine eqk rfl ?_ | refine fLm rfl ?_ | refine fLk (by assumption) ?_ | refine fVk ?_ | refine fLVk ?_ | refine fWk ?_ | intro hl))
  all_goals conv => whnf
  all_goals rfl
theorem ask_FIXED (a : Ar) (r : GV) (z : V) (hz : z = .row false []) (hr : RetL Tryz.prog F_texts_fixed [.ptr 0 0] [.box true [.row false [cA a], .int .i64 0]] (eV r) [.box true [z, .int .i64 0]]) :
    Ret Tryz.prog F_octavolaw18_ask [.str ⟨#[70, 73, 88, 69, 68]⟩, .row false [cA a]] (eV r) := by
  have hc : Ret Tryz.prog F_texts_Call [.str ⟨#[70, 73, 88, 69, 68]⟩, .row false [cA a]] (.tup [eV r, .bool true]) := by
    subst hz
    refine r_texts_Call rfl fun hw => ?_
    clear hw
    repeat' ((conv => whnf); (first | refine Bth.mk ?_ ?_ | refine pickk0 ?_ | refine csp (fun h => ?_) (fun h => ?_) | refine cllo (fnd_FIXED) (fun _ => ?_) | refine clll (RetL.frame hr _ [1] rfl (by simp) rfl rfl) (fun _ _ => ?_) | (refine sda ?_ ?_; (focus (first | rfl | exact of_decide_eq_true rfl | (simp; done)))) | refine sda ?_ ?_ | refine conk rfl ?_ | refine ldk rfl ?_ | refine mapk (fun x hx => ?_) | exact ⟨rfl, rfl⟩ | refine nilk (fun h => absurd h (of_decide_eq_false rfl)) ?_ | refine nilk (fun h => absurd h (List.cons_ne_nil _ _)) ?_ | refine nilk (fun h => ?_) ?_ | exact rfl | exact True.intro | refine leftk1 rfl ?_ | refine bytk8 rfl ?_ | refine bytk rfl ?_ | exact leftk0 rfl | refine eqk rfl ?_ | refine fLm rfl ?_ | refine fLk (by assumption) ?_ | refine fVk ?_ | refine fLVk ?_ | refine fWk ?_ | intro hl))
    all_goals conv => whnf
  refine r_octavolaw18_ask rfl fun hw => ?_
  clear hw
  repeat' ((conv => whnf); (first | refine Bth.mk ?_ ?_ | refine pickk0 ?_ | refine csp (fun h => ?_) (fun h => ?_) | refine cllo (hc) (fun _ => ?_) | (refine sda ?_ ?_; (focus (first | rfl | exact of_decide_eq_true rfl | (simp; done)))) | refine sda ?_ ?_ | refine conk rfl ?_ | refine ldk rfl ?_ | refine mapk (fun x hx => ?_) | exact ⟨rfl, rfl⟩ | refine nilk (fun h => absurd h (of_decide_eq_false rfl)) ?_ | refine nilk (fun h => absurd h (List.cons_ne_nil _ _)) ?_ | refine nilk (fun h => ?_) ?_ | exact rfl | exact True.intro | refine leftk1 rfl ?_ | refine bytk8 rfl ?_ | refine bytk rfl ?_ | exact leftk0 rfl | refine eqk rfl ?_ | refine fLm rfl ?_ | refine fLk (by assumption) ?_ | refine fVk ?_ | refine fLVk ?_ | refine fWk ?_ | intro hl))
  all_goals conv => whnf
end Go.Proofs.YtcbknemdidehlaaGreatDoor

/- Layer 18: pieces of texts. -/
set_option maxRecDepth 100000
set_option linter.all false
namespace Go.Proofs.YtcbknemdidehlaaGreatDoor
open Ab R
def catL (l : List ByteArray) : ByteArray := ⟨(l.flatMap (·.data.toList)).toArray⟩
structure Sm (l : List ByteArray) : Prop where
  len : l.length ≤ 255
  size : ∀ c ∈ l, c.size ≤ 255
theorem join_nil (l : List (List UInt8)) : Lib.join l [] = l.flatMap id := by
  induction l with
  | nil => rfl
  | cons x l ih =>
    cases l with
    | nil => simp [Lib.join]
    | cons y l => simp [Lib.join] at ih ⊢; simp [ih]
theorem join_e0 (l : List ByteArray) : Lib.join (l.map (·.data.toList)) e0.data.toList = l.flatMap (·.data.toList) := by
  show Lib.join (l.map (·.data.toList)) [] = _
  rw [join_nil, List.flatMap_map]
  rfl
theorem cat_len : ∀ {l : List ByteArray}, (∀ c ∈ l, c.size ≤ 255) → (l.flatMap (·.data.toList)).length ≤ l.length * 255
  | [], _ => by simp
  | c :: l, h => by
    have h1 := h c List.mem_cons_self
    have h2 := cat_len (l := l) fun c hc => h c (List.mem_cons_of_mem _ hc)
    have h3 : c.data.toList.length = c.size := Array.length_toList
    rw [List.flatMap_cons, List.length_append, h3, List.length_cons]
    omega
theorem Join_r (els : List (List V)) (l : List ByteArray) (he : els = l.map cS) (h : Sm l) : Ret Tryz.prog F_strings_Join [.row false els, .str e0] (.str (catL l)) := by
  subst he
  have hl := h.len
  have h1 := cat_len h.size
  have hb : (Lib.join (l.map (·.data.toList)) e0.data.toList).length ≤ 140737488355328 := by
    rw [join_e0]
    omega
  have := Join_c l e0 (by omega) hb
  have e : joinB l e0 = catL l := by rw [joinB, join_e0, catL]
  rwa [e] at this
theorem chs_size (s : ByteArray) : ∀ (m pos : Nat) (c : ByteArray), c ∈ Vl.chs s m pos → c.size ≤ s.size := by
  intro m
  induction m with
  | zero => intro pos c hc; cases hc
  | succ m ih =>
    intro pos c hc
    unfold Vl.chs at hc
    split at hc
    · rcases List.mem_cons.1 hc with rfl | hc
      · rw [ByteArray.size_extract]; omega
      · exact ih _ c hc
    · cases hc
theorem sm_chars {s : ByteArray} (h : s.size ≤ 255) : Sm (Vl.chars s) := ⟨by have := chars_len s; omega, fun c hc => by have := chs_size s _ _ c hc; omega⟩
theorem Sm.take {l : List ByteArray} (h : Sm l) (n : Nat) : Sm (l.take n) := ⟨by have := h.len; simp; omega, fun c hc => h.size c (List.mem_of_mem_take hc)⟩
theorem Sm.drop {l : List ByteArray} (h : Sm l) (n : Nat) : Sm (l.drop n) := ⟨by have := h.len; simp; omega, fun c hc => h.size c (List.mem_of_mem_drop hc)⟩
theorem len1 {e : List V} {l : List ByteArray} (h : e ∈ l.map cS) : e.length = 1 := by
  obtain ⟨c, _, rfl⟩ := List.mem_map.1 h
  rfl
theorem tk (l : List ByteArray) {k : Int} (hk : 0 ≤ k) : List.take ((if ((l.map cS).length : Int) < k then ((l.map cS).length : Int) else k) - 0).toNat (List.drop (Int.toNat 0) (l.map cS)) = (l.take k.toNat).map cS := by
  simp only [List.length_map, Int.toNat_zero, List.drop_zero]
  split
  · rw [List.map_take, List.take_of_length_le (by simp), List.take_of_length_le (by simp; omega)]
  · rw [List.map_take, Int.sub_zero]
theorem left_c (s : ByteArray) (hs : s.size ≤ 255) (k : Int) (hk : 0 ≤ k ∧ k ≤ 10000000) :
    RetL Tryz.prog F_texts_ends_1 [.ptr 0 0, .elem [.bool true]] [.box true [.row false [cA (oA ⟨2, 0, s⟩), cA (oA ⟨1, k * 10000, e0⟩)], .int .i64 0]] (eV (strS (catL ((Vl.chars s).take k.toNat)))) [.box true [.row false [], .int .i64 0]] := by
  have hc := Chars_c s (by omega)
  have hsm := sm_chars hs
  have hj := fun els he => Join_r els _ he (hsm.take k.toNat)
  have hk0 : (!decide (k ≥ 0)) = false := by simp; omega
  have hlm : (List.map cS (Vl.chars s)).length = (Vl.chars s).length := List.length_map _
  refine rl_texts_ends_1 rfl fun hw _ => ?_
  clear hw
  repeat' ((conv => whnf); (first | refine Bth.mk ?_ ?_ | refine csp_f (hk0) ?_ | refine pickk0 ?_ | refine csp (fun h => ?_) (fun h => ?_) | refine clll (RetL.frame (text_c s hs [oA ⟨1, k * 10000, e0⟩]) _ [0] rfl (by simp) rfl rfl) (fun _ _ => ?_) | refine cllo (hc) (fun _ => ?_) | refine clll (RetL.frame (whole_c k 1 ⟨by omega, by omega⟩ []) _ [0] rfl (by simp) rfl rfl) (fun _ _ => ?_) | (apply clqi; apply rq_texts_asked_tells rfl) | (apply clqi; apply rq_texts_ends_1_1 rfl) | refine cllo (hj _ (tk _ hk.1)) (fun _ => ?_) | refine cllo (value_Str _) (fun _ => ?_) | (refine sda ?_ ?_; (focus (first | rfl | exact of_decide_eq_true rfl | (simp; done)))) | refine sda ?_ ?_ | refine conk rfl ?_ | refine ldk rfl ?_ | refine mapk (fun x hx => ?_) | exact ⟨rfl, rfl⟩ | refine nilk (fun h => absurd h (of_decide_eq_false rfl)) ?_ | refine nilk (fun h => absurd h (List.cons_ne_nil _ _)) ?_ | refine nilk (fun h => ?_) ?_ | exact rfl | exact True.intro | refine leftk1 rfl ?_ | refine bytk8 rfl ?_ | refine bytk rfl ?_ | exact leftk0 rfl | refine eqk rfl ?_ | refine fLm rfl ?_ | refine fLk (by assumption) ?_ | refine fVk ?_ | refine fLVk ?_ | refine fWk ?_ | intro hl))
  all_goals conv => whnf
  · rw [hlm]
    refine ⟨by omega, ?_, ?_⟩ <;> split <;> omega
  · exact len1 hl
theorem texts_whole_c (k : Int) (h : -10000000 ≤ k ∧ k ≤ 10000000) : Ret Tryz.prog F_texts_whole [.int .i64 k] (eV ⟨1, k * 10000, e0⟩) := by
  have ho := value_Of (IntKind.i64.wrap (k * 10000)) true
  have e : ofS (IntKind.i64.wrap (k * 10000)) true = ⟨1, k * 10000, e0⟩ := by
    rw [w64 (by omega), ofS, if_pos (by simp [goodN]; omega)]
  rw [e] at ho
  refine r_texts_whole rfl fun hw => ?_
  clear hw
  repeat' ((conv => whnf); (first | refine csp (fun h => ?_) (fun h => ?_) | refine cllo (ho) (fun _ => ?_) | (refine sda ?_ ?_; (focus (first | rfl | (simp; done)))) | refine sda ?_ ?_ | refine conk rfl ?_ | refine ldk rfl ?_ | refine mapk (fun x hx => ?_) | exact ⟨rfl, rfl⟩ | refine nilk (fun h => ?_) ?_ | intro hl))
  all_goals conv => whnf
theorem tkd (l : List ByteArray) (a b : Nat) : List.take b (List.drop a (l.map cS)) = ((l.drop a).take b).map cS := by rw [List.map_take, List.map_drop]
theorem part_c (l : List ByteArray) (at_ n : Int) (h1 : 1 ≤ at_ ∧ at_ ≤ 10000000) (h2 : 0 ≤ n ∧ n ≤ 10000000) (h9 : l.length ≤ 255) :
    Ret Tryz.prog F_texts_part [.row false (l.map cS), .int .i64 at_, .int .i64 n] (.tup [.row false ((l.take (at_ - 1).toNat).map cS), .row false (((l.drop (at_ - 1).toNat).take n.toNat).map cS), .row false ((l.drop ((at_ - 1).toNat + n.toNat)).map cS)]) := by
  have hlm : ((List.map cS l).length : Int) = l.length := by rw [List.length_map]
  refine r_texts_part rfl fun hw => ?_
  clear hw
  repeat' ((conv => whnf); (first | refine Bth.mk ?_ ?_ | refine pickk0 ?_ | refine csp (fun h => ?_) (fun h => ?_) | (refine sda ?_ ?_; (focus (first | rfl | exact of_decide_eq_true rfl | (simp; done)))) | refine sda ?_ ?_ | refine conk rfl ?_ | refine ldk rfl ?_ | refine mapk (fun x hx => ?_) | exact ⟨rfl, rfl⟩ | refine nilk (fun h => absurd h (of_decide_eq_false rfl)) ?_ | refine nilk (fun h => absurd h (List.cons_ne_nil _ _)) ?_ | refine nilk (fun h => ?_) ?_ | exact rfl | exact True.intro | refine leftk1 rfl ?_ | refine bytk8 rfl ?_ | refine bytk rfl ?_ | exact leftk0 rfl | refine eqk rfl ?_ | refine fLm rfl ?_ | refine fLk (by assumption) ?_ | refine fVk ?_ | refine fLVk ?_ | refine fWk ?_ | intro hl))
  all_goals conv => whnf
  all_goals first | exact len1 (by assumption) | skip
  all_goals rw [hlm]
  all_goals rw [w64 (n := at_ - 1) (by omega)]
  all_goals generalize hF : (if (l.length : Int) < at_ - 1 then (l.length : Int) else at_ - 1) = F
  all_goals have hF' : (F = l.length ∧ (l.length : Int) < at_ - 1) ∨ (F = at_ - 1 ∧ ¬ (l.length : Int) < at_ - 1) := by split at hF <;> omega
  · omega
  all_goals rw [w64 (n := (l.length : Int) - F) (by omega)]
  all_goals generalize hH : (if (l.length : Int) - F < n then (l.length : Int) - F else n) = H
  all_goals have hH' : (H = l.length - F ∧ (l.length : Int) - F < n) ∨ (H = n ∧ ¬ (l.length : Int) - F < n) := by split at hH <;> omega
  all_goals rw [w64 (n := F + H) (by omega)]
  · omega
  · omega
  · have e1 : l.take (F - 0).toNat = l.take (at_ - 1).toNat := by
      rcases hF' with ⟨e, c⟩ | ⟨e, c⟩
      · rw [List.take_of_length_le (by omega), List.take_of_length_le (by omega)]
      · rw [e, Int.sub_zero]
    have e2 : (l.drop F.toNat).take (F + H - F).toNat = (l.drop (at_ - 1).toNat).take n.toNat := by
      rcases hF' with ⟨e, c⟩ | ⟨e, c⟩
      · rw [List.drop_eq_nil_of_le (by omega), List.drop_eq_nil_of_le (by omega), List.take_nil, List.take_nil]
      · rw [e]
        rcases hH' with ⟨e', c'⟩ | ⟨e', c'⟩
        · rw [List.take_of_length_le (by simp; omega), List.take_of_length_le (by simp; omega)]
        · rw [e', show at_ - 1 + n - (at_ - 1) = n by omega]
    have e3 : (l.drop (F + H).toNat).take ((l.length : Int) - (F + H)).toNat = l.drop ((at_ - 1).toNat + n.toNat) := by
      rw [List.take_of_length_le (by simp; omega)]
      rcases hF' with ⟨e, c⟩ | ⟨e, c⟩
      · rw [List.drop_eq_nil_of_le (by omega), List.drop_eq_nil_of_le (by omega)]
      · rcases hH' with ⟨e', c'⟩ | ⟨e', c'⟩
        · rw [List.drop_eq_nil_of_le (by omega), List.drop_eq_nil_of_le (by omega)]
        · congr 1
          omega
    rw [tkd, tkd, tkd, Int.toNat_zero, List.drop_zero, e1, e2, e3]
end Go.Proofs.YtcbknemdidehlaaGreatDoor

/- Layer 18: MID, REPLACE. -/
set_option maxRecDepth 100000
set_option linter.all false
namespace Go.Proofs.YtcbknemdidehlaaGreatDoor
open Ab R
theorem mid_c (s : ByteArray) (hs : s.size ≤ 255) (a n : Int) (h1 : 1 ≤ a ∧ a ≤ 10000000) (h2 : 0 ≤ n ∧ n ≤ 10000000) :
    RetL Tryz.prog F_texts_mid [.ptr 0 0] [.box true [.row false [cA (oA ⟨2, 0, s⟩), cA (oA ⟨1, a * 10000, e0⟩), cA (oA ⟨1, n * 10000, e0⟩)], .int .i64 0]] (eV (strS (catL (((Vl.chars s).drop (a - 1).toNat).take n.toNat)))) [.box true [.row false [], .int .i64 0]] := by
  have hc := Chars_c s (by omega)
  have hsm := sm_chars hs
  have h9 := hsm.len
  generalize Vl.chars s = l at *
  have ka : decide (a ≥ 1) = true := decide_eq_true (by omega)
  have kn : decide (n ≥ 0) = true := decide_eq_true (by omega)
  have kn2 : (!decide (n ≥ 0)) = false := by rw [kn]; rfl
  refine rl_texts_mid rfl fun hw9 _ => ?_
  clear hw9
  repeat' ((conv => whnf); (first | refine Bth.mk ?_ ?_ | refine csp_t (ka) ?_ | refine csp_t (kn) ?_ | refine csp_f (kn2) ?_ | refine pickk0 ?_ | refine csp (fun h => ?_) (fun h => ?_) | refine clll (RetL.frame (text_c s hs [oA ⟨1, a * 10000, e0⟩, oA ⟨1, n * 10000, e0⟩]) _ [0] rfl (by simp) rfl rfl) (fun _ _ => ?_) | refine cllo (hc) (fun _ => ?_) | refine clll (RetL.frame (whole_c a 0 ⟨by omega, by omega⟩ [oA ⟨1, n * 10000, e0⟩]) _ [0] rfl (by simp) rfl rfl) (fun _ _ => ?_) | refine clll (RetL.frame (whole_c n 0 ⟨by omega, by omega⟩ []) _ [0] rfl (by simp) rfl rfl) (fun _ _ => ?_) | (apply clqi; apply rq_texts_asked_tells rfl) | (apply clqi; apply rq_texts_mid_1 rfl) | refine cllo (part_c l a n h1 h2 h9) (fun _ => ?_) | refine cllo (Join_r _ _ rfl ((hsm.drop _).take _)) (fun _ => ?_) | refine cllo (value_Str _) (fun _ => ?_) | (refine sda ?_ ?_; (focus (first | rfl | exact of_decide_eq_true rfl | (simp; done)))) | refine sda ?_ ?_ | refine conk rfl ?_ | refine ldk rfl ?_ | refine mapk (fun x hx => ?_) | exact ⟨rfl, rfl⟩ | refine nilk (fun h => absurd h (of_decide_eq_false rfl)) ?_ | refine nilk (fun h => absurd h (List.cons_ne_nil _ _)) ?_ | refine nilk (fun h => ?_) ?_ | exact rfl | exact True.intro | refine leftk1 rfl ?_ | refine bytk8 rfl ?_ | refine bytk rfl ?_ | exact leftk0 rfl | refine eqk rfl ?_ | refine fLm rfl ?_ | refine fLk (by assumption) ?_ | refine fVk ?_ | refine fLVk ?_ | refine fWk ?_ | intro hl))
  all_goals conv => whnf
end Go.Proofs.YtcbknemdidehlaaGreatDoor

/- A builder of texts is written to: what stands then, block by block. -/
set_option maxRecDepth 100000
set_option linter.all false
namespace Go.Proofs.YtcbknemdidehlaaGreatDoor
open Go Go.Proofs Go.Shelf Go.RowKit
/-- All but the blocks b and v's stand. -/
structure Kept (b : Nat) (v : Value) (w w' : World) : Prop where
  os : w'.os = w.os
  tape : w'.tape = w.tape
  output : w'.output = w.output
  size : w.heap.size ≤ w'.heap.size
  block : ∀ k, k < w.heap.size → k ≠ b → some k ≠ v.ownBlock → w'.heap[k]? = w.heap[k]?
variable {P : Program} {ρ : Ren}
theorem cc_exact (L : Lays.n166 P ρ) (X : Builder.Extra P ρ) (B b : Nat) (p v : Value) (n : Nat) (bs : List Value) (w : World) (hp : p = .pointer none ∨ p = .pointer (some ⟨b, 0, none⟩)) (hbk : w.heap[b]? = some (.cells #[p, v] (ρ.t 72) (0, 0))) (hown : w.ownsRow B (ρ.t 5) 1 v n bs) :
    ∃ W1, (Calls P (ρ.f 240) #[.pointer (some ⟨b, 0, none⟩)] w fun e w' => e = .returned (.tuple #[]) ∧ w' = W1) ∧ W1.heap[b]? = some (.cells #[.pointer (some ⟨b, 0, none⟩), v] (ρ.t 72) (0, 0)) ∧ W1.ownsRow B (ρ.t 5) 1 v n bs ∧ W1.os = w.os ∧ W1.tape = w.tape ∧ W1.output = w.output ∧ W1.heap.size = w.heap.size ∧ ∀ k, k ≠ b → W1.heap[k]? = w.heap[k]? := by
  have hne := Lib.ownBlock_ne hown hbk X.neB5
  rcases hp with rfl | rfl
  · refine ⟨w.setCell ⟨b, 0, none⟩ (.pointer (some ⟨b, 0, none⟩)), Any.Builder_copyCheck_fresh { L with } X.toX72 b w (by rw [Lib.cell_of_heap hbk]; rfl) (by simp [World.shape?, hbk]) (Lib.frozen_of_heap hbk 0), ?_, ?_, rfl, rfl, rfl, by simp [World.setCell], fun k hk => heap_setCell_other w _ k _ hk⟩
    · simp [World.setCell, Array.getElem?_modify, hbk]
    · exact hown.kept (row := some b) ⟨rfl, rfl, rfl, by simp [World.setCell], fun k _ hk => Below.heap_setCell _ _ _ _ (fun e => hk (by simp [e]))⟩ (Or.inr hne)
  · exact ⟨w, Any.Builder_copyCheck_used { L with } X.toX72 b w (by rw [Lib.cell_of_heap hbk]; rfl), hbk, hown, rfl, rfl, rfl, rfl, fun k _ => rfl⟩
set_option maxHeartbeats 2000000 in
theorem ws_exact (L : Lays.n166 P ρ) (X : Builder.Extra P ρ) (B b : Nat) (p v : Value) (bs : List Value) (s : ByteArray) (w : World) (hp : p = .pointer none ∨ p = .pointer (some ⟨b, 0, none⟩)) (hbk : w.heap[b]? = some (.cells #[p, v] (ρ.t 72) (0, 0)))
    (hown : w.ownsRow B (ρ.t 5) 1 v bs.length bs) (hlen : bs.length + s.size ≤ 140737488355328) (hBw : B ≤ w.heap.size) :
    Calls P (ρ.f 166) #[.pointer (some ⟨b, 0, none⟩), .string s] w fun e w' => e = .returned (.tuple #[.int .i64 s.size, .nilIface]) ∧ ∃ v', w'.heap[b]? = some (.cells #[.pointer (some ⟨b, 0, none⟩), v'] (ρ.t 72) (0, 0)) ∧ w'.ownsRow B (ρ.t 5) 1 v' (bs ++ Lib.strCells s).length (bs ++ Lib.strCells s) ∧ Kept b v w w' := by
  obtain ⟨W1, hcc, hbk1, hown1, hos, hta, hou, hsz, hkp⟩ := cc_exact L X B b p v _ bs w hp hbk hown
  have hne := Lib.ownBlock_ne hown1 hbk1 X.neB5
  obtain ⟨i0, hi, hz0, hz1, hz2⟩ := info_parts X.infoByte
  have mixed := L.mixed
  have t72 := L.t72; have a72 := L.a72; have z72 := L.z72; have v72 := L.v72; have u72 := run_underlying L.t72
  have t70 := L.t70; have a70 := L.a70; have z70 := L.z70; have v70 := L.v70; have u70 := run_underlying L.t70
  have t37 := L.t37; have a37 := L.a37; have z37 := L.z37; have v37 := L.v37; have u37 := run_underlying L.t37
  have t3 := L.t3; have a3 := L.a3; have z3 := L.z3; have v3 := L.v3; have u3 := run_underlying L.t3
  have t9 := L.t9; have a9 := L.a9; have z9 := L.z9; have v9 := L.v9; have u9 := run_underlying L.t9
  have t4 := L.t4; have a4 := L.a4; have z4 := L.z4; have v4 := L.v4; have u4 := run_underlying L.t4
  have t164 := L.t164; have a164 := L.a164; have z164 := L.z164; have v164 := L.v164; have u164 := run_underlying L.t164
  have t5 := X.t5; have a5 := X.a5; have z5 := X.z5; have v5 := X.v5; have u5 := run_underlying X.t5
  have e240 : ∀ args w, (callFunc (ρ.f 240) args).run P w = .ok (.enter (ρ.f 240) args) w := enters_of L.f240 (by kernel_rfl) rfl
  have c0 : W1.cell? ⟨b, 0, none⟩ = some (.pointer (some ⟨b, 0, none⟩)) := by rw [Lib.cell_of_heap hbk1]; rfl
  have c1 : W1.cell? ⟨b, 1, none⟩ = some v := by rw [Lib.cell_of_heap hbk1]; rfl
  go_enter L.f166, Body.n166_ntmps ρ
  go_wp2_with (go_at_fn (ρ.f 240); refine hcc.mono ?_)
  rintro e w1 ⟨rfl, rfl⟩
  go_wp2_with (at_builtin; refine Lib.wpList_append_own_string _ rfl _ _ (ρ.t 37) (ρ.t 9) rfl B (ρ.t 5) i0 L.t37 L.t9 hi hz0 hz1 hz2 _ _ _ rfl hown1 s rfl ?c3 ?c4 ?c5 ?_)
  case c3 => unfold maxLen; omega
  case c4 => omega
  case c5 => omega
  intro v' w2 hown' hgrow _
  have hlt : b < w1.heap.size := by
    rcases Nat.lt_or_ge b w1.heap.size with h' | h'
    · exact h'
    · simp [Array.getElem?_eq_none h'] at hbk1
  have hb2 : w2.heap[b]? = some (.cells #[.pointer (some ⟨b, 0, none⟩), v] (ρ.t 72) (0, 0)) := by
    rw [hgrow.block b hlt (fun e => hne e.symm)]
    exact hbk1
  have d0 : w2.cell? ⟨b, 0, none⟩ = some (.pointer (some ⟨b, 0, none⟩)) := by rw [Lib.cell_of_heap hb2]; rfl
  have d1 : w2.cell? ⟨b, 1, none⟩ = some v := by rw [Lib.cell_of_heap hb2]; rfl
  have f1 : w2.frozen? ⟨b, 1, none⟩ = false := Lib.frozen_of_heap hb2 1
  obtain ⟨ao, n', cap, rfl⟩ : ∃ ao n' cap, v' = .slice ao n' cap := by
    rcases hown'.2 with ⟨hv, _⟩ | ⟨g, cap, cur, hv, _⟩
    · exact ⟨_, _, _, hv⟩
    · exact ⟨_, _, _, hv⟩
  go_wp2
  go_ret2
  refine ⟨rfl, ?_⟩
  obtain ⟨_, v2, hb3, hown3, _⟩ := Lib.BuilderAt.put (T := (ρ.t 72)) (e := (ρ.t 5)) (B := 0) (Nat.zero_le b) hb2 (v' := .slice ao n' cap) (bs' := bs ++ Lib.strCells s) (by
    have h9 : w2.ownsRow B (ρ.t 5) 1 (.slice ao n' cap) (bs ++ Lib.strCells s).length (bs ++ Lib.strCells s) := by simpa [Lib.strCells_length] using hown'
    exact ⟨h9.1, h9.2.imp id fun ⟨g, cap, cur, r1, r2, r3⟩ => ⟨g, cap, cur, r1, Nat.zero_le _, r3⟩⟩) X.neB5
  have h9 : w2.ownsRow B (ρ.t 5) 1 (.slice ao n' cap) (bs ++ Lib.strCells s).length (bs ++ Lib.strCells s) := by simpa [Lib.strCells_length] using hown'
  refine ⟨.slice ao n' cap, ?_, ?_, ⟨?_, ?_, ?_, ?_, ?_⟩⟩
  · simp [World.setCell, Array.getElem?_modify, hb2]
  · exact h9.kept (row := some b) ⟨rfl, rfl, rfl, by simp [World.setCell], fun k _ hk => Below.heap_setCell _ _ _ _ (fun e => hk (by simp [e]))⟩ (Or.inr (Lib.ownBlock_ne h9 hb2 X.neB5))
  · exact hgrow.os.trans hos
  · exact hgrow.tape.trans hta
  · exact hgrow.output.trans hou
  · have := hgrow.size
    simp [World.setCell]
    omega
  · intro k hk hkb hkv
    rw [heap_setCell_other _ _ _ _ hkb, hgrow.block k (by omega) hkv, hkp k hkb]
end Go.Proofs.YtcbknemdidehlaaGreatDoor

/- PROPER's walk. -/
set_option maxRecDepth 100000
set_option linter.all false
namespace Go.Proofs.YtcbknemdidehlaaGreatDoor
open Go Go.Proofs Go.Shelf Go.RowKit P Go.Proofs.YtcbknemdidehlaaGreatDoorW.PrintWords Go.Proofs.YtcbknemdidehlaaGreatDoorW.PrintLast
theorem below_le {B C : Nat} {w w' : World} (h : Below C w w') (hb : B ≤ C) : Below B w w' := ⟨h.os, h.tape, h.output, h.size, fun k hk => h.block k (by omega)⟩
theorem byte_bd {s : ByteArray} {c : Int} (h : c ∈ bytesOf s) : 0 ≤ c ∧ c ≤ 255 := by
  unfold bytesOf at h
  obtain ⟨x, _, rfl⟩ := List.mem_map.1 h
  have := x.toNat_lt
  exact ⟨Int.natCast_nonneg _, by exact_mod_cast Nat.le_of_lt_succ this⟩
theorem ws_c (B b : Nat) (p v : Value) (bs : List Value) (s : ByteArray) (w : World) (hp : p = .pointer none ∨ p = .pointer (some ⟨b, 0, none⟩)) (hbk : w.heap[b]? = some (.cells #[p, v] 102 (0, 0)))
    (hown : w.ownsRow B 5 1 v bs.length bs) (hlen : bs.length + s.size ≤ 140737488355328) (hBw : B ≤ w.heap.size) :
    Calls Tryz.prog 107 #[.pointer (some ⟨b, 0, none⟩), .string s] w fun e w' => e = .returned (.tuple #[.int .i64 s.size, .nilIface]) ∧ ∃ v', w'.heap[b]? = some (.cells #[.pointer (some ⟨b, 0, none⟩), v'] 102 (0, 0)) ∧ w'.ownsRow B 5 1 v' (bs ++ Lib.strCells s).length (bs ++ Lib.strCells s) ∧ Kept b v w w' :=
  ws_exact (P := Tryz.prog) (ρ := Tryz.lays156_ren) { Tryz.lays156 with } Tryz.Builder_Extra_156 B b p v bs s w hp hbk hown hlen hBw
/-- Is it a letter? -/
def isL (c : Int) : Bool := decide (97 ≤ Go.bits .or .u8 c 32) && (decide (Go.bits .or .u8 c 32 ≤ 122) && decide (c < 128))
theorem isL_y {c : Int} (h1 : 97 ≤ Go.bits .or .u8 c 32) (h2 : Go.bits .or .u8 c 32 ≤ 122) : decide (c < 128) = isL c := by
  unfold isL
  rw [decide_eq_true h1, decide_eq_true h2]
  rfl
theorem isL_n {c : Int} (h : Go.bits .or .u8 c 32 < 97 ∨ 122 < Go.bits .or .u8 c 32) : false = isL c := by
  unfold isL
  rcases h with h | h
  · rw [decide_eq_false (by omega)]
    rfl
  · rw [decide_eq_false (p := Go.bits .or .u8 c 32 ≤ 122) (by omega)]
    simp
/-- What PROPER makes of bytes. -/
def prB (up lo : Int → ByteArray) : Bool → List Int → List UInt8
  | _, [] => []
  | bh, c :: l => (if bh then lo c else up c).data.toList ++ prB up lo (isL c) l
structure PR (n0 : Nat) (w0 : World) (s : ByteArray) (wr : World) (p v : Value) (l : List UInt8) : Prop where
  P : p = .pointer none ∨ p = .pointer (some ⟨n0, 0, none⟩)
  K : wr.heap[n0]? = some (.cells #[p, v] 102 (0, 0))
  O : wr.ownsRow (n0 + 2) 5 1 v (Lib.byteCells l).length (Lib.byteCells l)
  C : X.BL wr (n0 + 1) 5 (bytesOf s)
  S : n0 + 2 ≤ wr.heap.size
  B : Below n0 w0 wr
theorem PR.next {n0 : Nat} {w0 : World} {s : ByteArray} {wr : World} {p v : Value} {l : List UInt8} (h : PR n0 w0 s wr p v l) (c : Int) (x : ByteArray) (hx : x.size = 1) (hl : l.length ≤ 1048576) {w2 : World} (hb : Below (wr.alloc (.cells #[.int .u8 c] 5)).heap.size (wr.alloc (.cells #[.int .u8 c] 5)) w2) :
    Calls Tryz.prog 107 #[.pointer (some ⟨n0, 0, none⟩), .string x] w2 fun e w3 => e = .returned (.tuple #[.int .i64 x.size, .nilIface]) ∧ ∃ v', PR n0 w0 s w3 (.pointer (some ⟨n0, 0, none⟩)) v' (l ++ x.data.toList) := by
  have h1 : wr.heap.size < (wr.alloc (.cells #[.int .u8 c] 5)).heap.size := by simp [World.alloc, -World.alloc_eq]
  have h2 : ∀ j, j < wr.heap.size → w2.heap[j]? = wr.heap[j]? := fun j hj => by
    rw [hb.block j (by omega)]
    simp [World.alloc, -World.alloc_eq, Array.getElem?_push, Nat.ne_of_lt hj]
  have h3 : wr.heap.size ≤ w2.heap.size := by have := hb.size; omega
  have h4 : Below wr.heap.size wr w2 := ⟨hb.os, hb.tape, hb.output, h3, h2⟩
  have hS := h.S
  have hK2 : w2.heap[n0]? = some (.cells #[p, v] 102 (0, 0)) := by rw [h2 _ (by omega)]; exact h.K
  have hO2 := h.O.kept (row := none) ⟨hb.os, hb.tape, hb.output, h3, fun j hj _ => h2 j hj⟩ (by cases v.ownBlock <;> simp)
  have hC2 := h.C.below h4 (by omega)
  refine (ws_c (n0 + 2) n0 p v (Lib.byteCells l) x w2 h.P hK2 hO2 (by rw [Lib.byteCells_length, hx]; omega) (by omega)).mono ?_
  rintro e w3 ⟨he, v', g1, g2, g3⟩
  have hob : ∀ k, v.ownBlock = some k → n0 + 2 ≤ k := fun k hk => own_base hO2 k hk
  have hkeep : ∀ j, j < n0 + 2 → j ≠ n0 → w3.heap[j]? = w2.heap[j]? := fun j hj hne => g3.block j (by omega) hne fun q => by have := hob j q.symm; omega
  refine ⟨he, v', .inr rfl, g1, ?_, ?_, by have := g3.size; omega, ⟨g3.os.trans (hb.os.trans h.B.os), g3.tape.trans (hb.tape.trans h.B.tape), g3.output.trans (hb.output.trans h.B.output), by have := g3.size; have := h.B.size; omega, fun j hj => ?_⟩⟩
  · rw [Lib.strCells_eq, ← Lib.byteCells_append] at g2
    exact g2
  · obtain ⟨ex, fr, q, hl⟩ := hC2
    exact ⟨ex, fr, (hkeep _ (by omega) (by omega)).trans q, hl⟩
  · rw [hkeep j (by omega) (by omega), h2 j (by omega), h.B.block j hj]
set_option maxHeartbeats 2000000 in
theorem proper_walk (up lo : Int → ByteArray) (hup : ∀ c : Int, 0 ≤ c → c ≤ 255 → value_Upper.f (strOfNums [c]) = some (up c) ∧ (up c).size = 1) (hlo : ∀ c : Int, 0 ≤ c → c ≤ 255 → value_Lower.f (strOfNums [c]) = some (lo c) ∧ (lo c).size = 1) (s : ByteArray) (hs : s.size ≤ 1048576) (w : World) :
    Calls Tryz.prog 51 #[.string s] w fun e w' => e = .returned (.string ⟨(prB up lo false (bytesOf s)).toArray⟩) ∧ Below w.heap.size w w' := by
  have hcv := Lib.run_convert_string_bytes (P := Tryz.prog) (w.alloc (.cells #[.pointer none, .slice none 0 0] 102)) 9 87 5 s Tryz.underlying9 Tryz.underlying87 Tryz.underlying5
  have hN0 : (w.alloc (.cells #[.pointer none, .slice none 0 0] 102)).heap.size = w.heap.size + 1 := by simp [World.alloc, -World.alloc_eq]
  have HN : Aside0 (PR w.heap.size w s (Lib.bytesWorld (w.alloc (.cells #[.pointer none, .slice none 0 0] 102)) 5 s) (.pointer none) (.slice none 0 0) []) := ⟨⟨.inl rfl, by rw [Lib.bytesWorld_at_old _ _ _ _ (by omega)]; simp [World.alloc, -World.alloc_eq], own_nil _ _ _ _,
    by have := X.BL.new (w.alloc (.cells #[.pointer none, .slice none 0 0] 102)) 5 s; rwa [hN0] at this, by rw [Lib.bytesWorld_size, hN0]; exact Nat.le_refl _, ((Below.refl _ w).alloc (Nat.le_refl _) _).trans (below_le (X.below_bytes _ _ _) (by omega))⟩⟩
  rw [hN0] at hcv
  generalize Lib.bytesWorld (w.alloc (.cells #[.pointer none, .slice none 0 0] 102)) 5 s = w0 at hcv HN
  generalize grownCap (w.alloc (.cells #[.pointer none, .slice none 0 0] 102)) s.size 0 5 = cp at hcv
  clear hN0
  go_enter Tryz.func51, Tryz.ntmps51
  go_wp2
  go_loopw [12, 4] (fun v12 v4 wr => ∃ (k : Nat) (bh : Bool) (p v : Value) (l : List UInt8), k ≤ s.size ∧ v12 = .int .i64 (k : Int) ∧ v4 = .bool bh ∧ Aside0 (l.length = k) ∧ Aside0 (prB up lo false (bytesOf s) = l ++ prB up lo bh ((bytesOf s).drop k)) ∧ Aside0 (PR w.heap.size w s wr p v l)) (fun v12 v4 _ => s.size - (intOf v12).toNat)
  case atStart => exact ⟨0, false, _, _, [], Nat.zero_le _, rfl, rfl, ⟨rfl⟩, ⟨by simp⟩, HN⟩
  case round =>
    clear hcv HN
    obtain ⟨k, bh, p, v, l, hk, rfl, rfl, HL, HE, HR⟩ := hrel
    by_cases hlt : k < s.size
    · have hkA : k < (bytesOf s).length := by rw [bytesOf_length]; exact hlt
      have hcell := HR.out.C.cell hkA
      have hr : 0 ≤ (bytesOf s)[k]'hkA ∧ (bytesOf s)[k]'hkA ≤ 255 := by
        have hm := List.getElem_mem hkA
        generalize (bytesOf s)[k]'hkA = c at hm
        exact byte_bd hm
      have HD : Aside0 ((bytesOf s).drop k = (bytesOf s)[k]'hkA :: (bytesOf s).drop (k + 1)) := ⟨List.drop_eq_getElem_cons hkA⟩
      generalize (bytesOf s)[k]'hkA = c at hcell hr HD
      have HCX : Aside0 ((convert 87 9 (.slice (some ⟨wr.heap.size, 0, none⟩) 1 1)).run Tryz.prog (wr.alloc (.cells #[.int .u8 c] 5)) = .ok (.string (strOfNums [c])) (wr.alloc (.cells #[.int .u8 c] 5))) := ⟨by
        refine run_convert_bytes_arg (P := Tryz.prog) (w := wr.alloc (.cells #[.int .u8 c] 5)) 87 5 Tryz.underlying87 Tryz.underlying5 wr.heap.size 0 1 1 [c] rfl (fun i hi => ?_) 9 Tryz.underlying9
        obtain rfl : i = 0 := by omega
        simp [World.cell?, World.alloc, -World.alloc_eq]⟩
      have HZ9 : Aside0 (((k : Int) + 1) ≤ 9223372036854775807) := ⟨by omega⟩
      have HU1 := Aside0.mk (hup c hr.1 hr.2).1
      have HU2 := Aside0.mk (hup c hr.1 hr.2).2
      have HV1 := Aside0.mk (hlo c hr.1 hr.2).1
      have HV2 := Aside0.mk (hlo c hr.1 hr.2).2
      have HM : Aside0 (l.length ≤ 1048576) := ⟨by have := HL.out; omega⟩
      clear hr hkA hup hlo
      cases bh with
      | false =>
        go_wp2
        rw [HCX.out]
        simp only [Result.andThen]
        rw [Oper.upon_value]
        clear HCX
        go_wp2_with (first
          | (go_at_call 49; refine (value_Upper.calls _ _ _ HU1.out).mono ?_; rintro e w2 ⟨rfl, hb⟩; have HB2 := Aside0.mk hb; clear hb)
          | (go_at_call 107; refine (HR.out.next c _ HU2.out HM.out HB2.out).mono ?_; rintro e w3 ⟨rfl, hnx⟩; have HNX := Aside0.mk hnx; clear hnx; have hz := HZ9.out))
        all_goals
          obtain ⟨v', hN⟩ := HNX.out
          have hl9 := HL.out
          have hx9 := HU2.out
          have hs9 : ∀ x : ByteArray, x.data.toList.length = x.size := fun x => Array.length_toList
          refine ⟨⟨k + 1, isL c, _, v', _, by omega, by rw [Int.natCast_add]; rfl, by first | with_reducible exact congrArg Value.bool (isL_y (by assumption) (by assumption)) | with_reducible exact congrArg Value.bool (isL_n (.inl (by assumption))) | with_reducible exact congrArg Value.bool (isL_n (.inr (by assumption))), ⟨by rw [List.length_append, hs9]; omega⟩, ⟨by rw [HE.out, HD.out, List.append_assoc]; rfl⟩, ⟨hN⟩⟩, by simp only [intOf]; omega⟩
      | true =>
        go_wp2
        rw [HCX.out]
        simp only [Result.andThen]
        rw [Oper.upon_value]
        clear HCX
        go_wp2_with (first
          | (go_at_call 50; refine (value_Lower.calls _ _ _ HV1.out).mono ?_; rintro e w2 ⟨rfl, hb⟩; have HB2 := Aside0.mk hb; clear hb)
          | (go_at_call 107; refine (HR.out.next c _ HV2.out HM.out HB2.out).mono ?_; rintro e w3 ⟨rfl, hnx⟩; have HNX := Aside0.mk hnx; clear hnx; have hz := HZ9.out))
        all_goals
          obtain ⟨v', hN⟩ := HNX.out
          have hl9 := HL.out
          have hx9 := HV2.out
          have hs9 : ∀ x : ByteArray, x.data.toList.length = x.size := fun x => Array.length_toList
          refine ⟨⟨k + 1, isL c, _, v', _, by omega, by rw [Int.natCast_add]; rfl, by first | with_reducible exact congrArg Value.bool (isL_y (by assumption) (by assumption)) | with_reducible exact congrArg Value.bool (isL_n (.inl (by assumption))) | with_reducible exact congrArg Value.bool (isL_n (.inr (by assumption))), ⟨by rw [List.length_append, hs9]; omega⟩, ⟨by rw [HE.out, HD.out, List.append_assoc]; rfl⟩, ⟨hN⟩⟩, by simp only [intOf]; omega⟩
    · obtain rfl : k = s.size := by omega
      have hP := HR.out
      have hE := HE.out
      rw [List.drop_eq_nil_of_le (by rw [bytesOf_length]; exact Nat.le_refl _)] at hE
      have hE' : prB up lo false (bytesOf s) = l := by rw [hE]; simp [prB]
      have hown : wr.ownsRow w.heap.size 5 1 v (Lib.byteCells l).length (Lib.byteCells l) := own_weaken hP.O (by omega)
      have hne := Lib.ownBlock_ne hown hP.K (by decide)
      have hIs : Lib.IsBuilder 102 5 w.heap.size w.heap.size (Lib.byteCells l) wr := by
        rcases hP.P with q | q
        · exact .inl ⟨Nat.le_refl _, v, by rw [hP.K, q], hown, hne⟩
        · exact .inr ⟨Nat.le_refl _, v, by rw [hP.K, q], hown, hne⟩
      have HS9 := Aside0.mk (Any.Builder_String_any (P := Tryz.prog) (ρ := Tryz.lays169_ren) Tryz.lays169 Tryz.Builder_Extra_169 w.heap.size w.heap.size l wr hIs (by have := hP.S; omega))
      have HB9 := Aside0.mk hP.B
      have HE9 := Aside0.mk hE'
      clear hP hE hE' hown hne hIs hup hlo
      go_wp2_with (go_at_call 108; refine HS9.out.mono ?_; rintro e w2 ⟨rfl, hb⟩; have HB2 := Aside0.mk hb; clear hb)
      go_ret
      rw [HE9.out]
      exact ⟨rfl, HB9.out.trans HB2.out⟩
end Go.Proofs.YtcbknemdidehlaaGreatDoor

/- Layer 18: PROPER's contract. -/
set_option maxRecDepth 100000
set_option linter.all false
namespace Go.Proofs.YtcbknemdidehlaaGreatDoor
open Go Go.Proofs Go.Shelf Go.RowKit P Go.Proofs.YtcbknemdidehlaaGreatDoorW.PrintWords Go.Proofs.YtcbknemdidehlaaGreatDoorW.PrintLast Ab R
theorem son_size (l : List Int) : (strOfNums l).size = l.length := by
  show (strOfNums l).data.size = _
  simp [strOfNums]
def upc (c : Int) : ByteArray := Vl.up (strOfNums [c])
def loc (c : Int) : ByteArray := Vl.lo (strOfNums [c])
theorem upc_size (c : Int) : (upc c).size = 1 := by
  show (strOfNums ((bytesOf (strOfNums [c])).map X.gUpper)).size = 1
  rw [son_size, List.length_map, bytesOf_length, son_size]
  rfl
theorem loc_size (c : Int) : (loc c).size = 1 := by
  show (strOfNums ((bytesOf (strOfNums [c])).map X.gLower)).size = 1
  rw [son_size, List.length_map, bytesOf_length, son_size]
  rfl
def prS (s : ByteArray) : ByteArray := ⟨(prB upc loc false (bytesOf s)).toArray⟩
theorem prB_len : ∀ (l : List Int) (b : Bool), (prB upc loc b l).length = l.length
  | [], b => rfl
  | c :: l, b => by
    have h1 : (upc c).data.toList.length = 1 := (Array.length_toList).trans (upc_size c)
    have h2 : (loc c).data.toList.length = 1 := (Array.length_toList).trans (loc_size c)
    unfold prB
    rw [List.length_append, prB_len l]
    cases b <;> simp [h1, h2] <;> omega
theorem prS_size (s : ByteArray) : (prS s).size = s.size := by
  show (prB upc loc false (bytesOf s)).toArray.size = _
  rw [List.size_toArray, prB_len, bytesOf_length]
theorem proper_c (s : ByteArray) (hs : s.size ≤ 1048576) : Ret Tryz.prog F_texts_proper [.str s] (.str (prS s)) := by
  refine Ab.Ret.calls Tryz.call51 (vs := [.string s]) (x := .string (prS s)) ⟨same_str s, True.intro⟩ (fits_str (by rw [prS_size]; omega)) (fun w => ?_)
  exact proper_walk upc loc (fun c _ _ => ⟨Vl.Upper_is (by rw [son_size]; exact (by decide : 1 ≤ 140737488351232)), upc_size c⟩) (fun c _ _ => ⟨Vl.Lower_is (by rw [son_size]; exact (by decide : 1 ≤ 140737488351232)), loc_size c⟩) s hs w
theorem prop_c (s : ByteArray) (hs : s.size ≤ 255) : RetL Tryz.prog F_texts_texted_1 [.ptr 0 0, .elem [.fn F_texts_made_1 [] [.elem [.fn F_texts_proper [] []]]]] [.box true [.row false [cA (oA ⟨2, 0, s⟩)], .int .i64 0]] (eV (strS (prS s))) [.box true [.row false [], .int .i64 0]] := by
  have hp := proper_c s (by omega)
  generalize prS s = y at *
  refine rl_texts_texted_1 rfl fun hw9 _ => ?_
  clear hw9
  repeat' ((conv => whnf); (first | refine Bth.mk ?_ ?_ | refine pickk0 ?_ | refine csp (fun h => ?_) (fun h => ?_) | refine clll (RetL.frame (text_c s hs []) _ [0] rfl (by simp) rfl rfl) (fun _ _ => ?_) | (apply clqi; apply rq_texts_asked_tells rfl) | (apply clqi; apply rq_texts_texted_1_1 rfl) | (apply clqi; apply rq_texts_made_1 rfl) | refine cllo (hp) (fun _ => ?_) | refine cllo (value_Str _) (fun _ => ?_) | (refine sda ?_ ?_; (focus (first | rfl | exact of_decide_eq_true rfl | (simp; done)))) | refine sda ?_ ?_ | refine conk rfl ?_ | refine ldk rfl ?_ | refine mapk (fun x hx => ?_) | exact ⟨rfl, rfl⟩ | refine nilk (fun h => absurd h (of_decide_eq_false rfl)) ?_ | refine nilk (fun h => absurd h (List.cons_ne_nil _ _)) ?_ | refine nilk (fun h => ?_) ?_ | exact rfl | exact True.intro | refine leftk1 rfl ?_ | refine bytk8 rfl ?_ | refine bytk rfl ?_ | exact leftk0 rfl | refine eqk rfl ?_ | refine fLm rfl ?_ | refine fLk (by assumption) ?_ | refine fVk ?_ | refine fLVk ?_ | refine fWk ?_ | intro hl))
  all_goals conv => whnf
end Go.Proofs.YtcbknemdidehlaaGreatDoor

/- Layer 18: FIND. -/
set_option maxRecDepth 100000
set_option linter.all false
namespace Go.Proofs.YtcbknemdidehlaaGreatDoor
open Ab R P
abbrev bA : ByteArray := ⟨#[97]⟩
abbrev bB : ByteArray := ⟨#[98]⟩
abbrev bC : ByteArray := ⟨#[99]⟩
abbrev bABC : ByteArray := ⟨#[97, 98, 99]⟩
theorem chars_abc : Vl.chars bABC = [bA, bB, bC] := by decide +kernel
theorem find_6_c (s : ByteArray) : Ret Tryz.prog F_texts_find_6 [.str s] (.str s) := by
  refine r_texts_find_6 rfl fun hw => ?_
  clear hw
  repeat' ((conv => whnf); (first | refine csp (fun h => ?_) (fun h => ?_) | (refine sda ?_ ?_; (focus (first | rfl | (simp; done)))) | refine sda ?_ ?_ | refine conk rfl ?_ | refine ldk rfl ?_ | refine mapk (fun x hx => ?_) | exact ⟨rfl, rfl⟩ | refine nilk (fun h => ?_) ?_ | intro hl))
  all_goals conv => whnf
set_option maxHeartbeats 1600000 in
theorem lvl_find (s t : ByteArray) (es : s = bABC) (et : t = bC) : RetL Tryz.prog F_texts_finds_1 [.ptr 0 0, .elem [.fn F_texts_find_6 [] []]] [.box true [.row false [cA (oA ⟨2, 0, t⟩), cA (oA ⟨2, 0, s⟩)], .int .i64 0]] (eV ⟨1, 30000, e0⟩) [.box true [.row false [], .int .i64 0]] := by
  have hs : s.size ≤ 255 := by subst es; decide
  have ht : t.size ≤ 255 := by subst et; decide
  have t1 := text_c t ht [oA ⟨2, 0, s⟩]
  have t2 := text_c s hs []
  have i1 := find_6_c t
  have i2 := find_6_c s
  have T1a : RetL Tryz.prog F_texts_asked_text [.ptr 0 0] [.box true [.row false [cA (oA ⟨2, 0, t⟩), cA (oA ⟨2, 0, s⟩)], .int .i64 0], .box true [.int .i64 0, .int .i64 0, .str e0]] (.str t) [.box true [.row false [cA (oA ⟨2, 0, s⟩)], .int .i64 0], .box true [.int .i64 0, .int .i64 0, .str e0]] := RetL.frame t1 _ [0] rfl (by simp) rfl rfl
  have T1b : RetL Tryz.prog F_texts_asked_text [.ptr 0 0] [.box true [.row false [cA (oA ⟨2, 0, t⟩), cA (oA ⟨2, 0, s⟩)], .int .i64 0], .box true [.int .i64 0, .int .i64 0, .str e0], .box true [.str e0]] (.str t) [.box true [.row false [cA (oA ⟨2, 0, s⟩)], .int .i64 0], .box true [.int .i64 0, .int .i64 0, .str e0], .box true [.str e0]] := RetL.frame t1 _ [0] rfl (by simp) rfl rfl
  have T2a : RetL Tryz.prog F_texts_asked_text [.ptr 0 0] [.box true [.row false [cA (oA ⟨2, 0, s⟩)], .int .i64 0], .box true [.int .i64 0, .int .i64 0, .str e0]] (.str s) [.box true [.row false [], .int .i64 0], .box true [.int .i64 0, .int .i64 0, .str e0]] := RetL.frame t2 _ [0] rfl (by simp) rfl rfl
  have T2b : RetL Tryz.prog F_texts_asked_text [.ptr 0 0] [.box true [.row false [cA (oA ⟨2, 0, s⟩)], .int .i64 0], .box true [.int .i64 0, .int .i64 0, .str e0], .box true [.str e0]] (.str s) [.box true [.row false [], .int .i64 0], .box true [.int .i64 0, .int .i64 0, .str e0], .box true [.str e0]] := RetL.frame t2 _ [0] rfl (by simp) rfl rfl
  refine rl_texts_finds_1 rfl fun hw9 _ => ?_
  clear hw9 t1 t2
  conv => whnf
  refine Exists.intro (fun e z => e = [(0, .ptr 0 0), (3, .ptr 1 0), (4, .ptr 2 0), (5, .str s)] ∧ z = [.box true [.row false [], .int .i64 0], .box true [.int .i64 0, .int .i64 0, .str e0], .box true [.str t]]) ?_
  refine Bth.mk ?_ ?_
  · repeat' ((conv => whnf); (first | (with_reducible refine Bth.mk ?_ ?_) | (with_reducible refine clll T1a (fun _ _ => ?_)) | (with_reducible refine clll T1b (fun _ _ => ?_)) | (with_reducible refine clll T2a (fun _ _ => ?_)) | (with_reducible refine clll T2b (fun _ _ => ?_)) | (with_reducible refine cllo i1 (fun _ => ?_)) | (with_reducible refine cllo i2 (fun _ => ?_)) | (with_reducible exact True.intro) | (with_reducible refine fLVk ?_) | exact ⟨rfl, rfl⟩))
  · rintro _ _ ⟨rfl, rfl⟩
    clear T1a T1b T2a T2b i1 i2
    subst es et
    have hc := Chars_c bABC (by decide)
    rw [chars_abc] at hc
    have hj : Ret Tryz.prog F_strings_Join [.row false [[.str bA], [.str bB], [.str bC]], .str e0] (.str bABC) := Join_r _ [bA, bB, bC] rfl ⟨by decide, by decide⟩
    have p1 : Ret Tryz.prog F_strings_HasPrefix [.str bABC, .str bC] (.bool false) := c_strings_HasPrefix _ _ _ (by decide +kernel)
    have p2 : Ret Tryz.prog F_strings_HasPrefix [.str (bABC.extract 1 3), .str bC] (.bool false) := c_strings_HasPrefix _ _ _ (by decide +kernel)
    have p3 : Ret Tryz.prog F_strings_HasPrefix [.str ((bABC.extract 1 3).extract 1 2), .str bC] (.bool true) := c_strings_HasPrefix _ _ _ (by decide +kernel)
    repeat' ((conv => whnf); (first | refine Bth.mk ?_ ?_ | refine pickk0 ?_ | refine csp (fun h => ?_) (fun h => ?_) | refine clll (RetL.frame (whole_0 1) _ [0] rfl (by simp) rfl rfl) (fun _ _ => ?_) | refine cllo (hc) (fun _ => ?_) | (apply clqi; apply rq_texts_asked_tells rfl) | refine Or.inr (Or.inl ⟨4, ?_⟩) | (apply clqi; apply rq_texts_finds_1_1 rfl) | refine cllo (hj) (fun _ => ?_) | refine cllo (p1) (fun _ => ?_) | refine cllo (p2) (fun _ => ?_) | refine cllo (p3) (fun _ => ?_) | refine cllo (texts_whole_c _ (by decide)) (fun _ => ?_) | (refine sda ?_ ?_; (focus (first | rfl | exact of_decide_eq_true rfl | (simp; done)))) | refine sda ?_ ?_ | refine conk rfl ?_ | refine ldk rfl ?_ | refine mapk (fun x hx => ?_) | exact ⟨rfl, rfl⟩ | refine nilk (fun h => absurd h (of_decide_eq_false rfl)) ?_ | refine nilk (fun h => absurd h (List.cons_ne_nil _ _)) ?_ | refine nilk (fun h => ?_) ?_ | exact rfl | exact True.intro | refine leftk1 rfl ?_ | refine bytk8 rfl ?_ | refine bytk rfl ?_ | exact leftk0 rfl | refine eqk rfl ?_ | refine fLm rfl ?_ | refine fLk (by assumption) ?_ | refine fVk ?_ | refine fLVk ?_ | refine fWk ?_ | intro hl))
    all_goals conv => whnf
end Go.Proofs.YtcbknemdidehlaaGreatDoor

/- Layer 18: the examples live. -/
set_option maxRecDepth 100000
set_option linter.all false
namespace Go.Proofs.YtcbknemdidehlaaGreatDoor
open Ab R P Go.RowKit Go.Proofs.YtcbknemdidehlaaGreatDoorW.PrintWords
theorem evm {α : Type} {g : Nat → Option α} (hm : ∀ k, LeO (g k) (g (k + 1))) {K : Nat} {v : α} (h : g K = some v) : Ev g v := by
  refine ⟨K, fun k hk => ?_⟩
  induction hk with
  | refl => exact h
  | step _ ih => exact hm _ _ ih
abbrev b25 : ByteArray := ⟨#[50, 46, 53]⟩
abbrev b250 : ByteArray := ⟨#[50, 46, 53, 48]⟩
theorem lvl_fixed : RetL Tryz.prog F_texts_fixed [.ptr 0 0] [.box true [.row false [cA (oA ⟨1, 25000, e0⟩)], .int .i64 0]] (eV ⟨2, 0, b250⟩) [.box true [.row false [], .int .i64 0]] := by
  have hr : Ret Tryz.prog F_num_Round [.int .i64 25000, .int .i64 2, .int .i64 0] (.tup [.int .i64 25000, .bool true]) := c_num_Round _ _ _ _ _ (evm (K := 20) (num_Round.mono _ _ _) (by decide +kernel)) (by decide)
  have hp : Ret Tryz.prog F_num_Print [.int .i64 25000] (.str b25) := c_num_Print _ _ (evm (K := 40) (num_Print.mono _) (by decide +kernel)) (by decide)
  have hcut : Ret Tryz.prog F_strings_Cut [.str b25, .str ⟨#[46]⟩] (.tup [.str ⟨#[50]⟩, .str ⟨#[53]⟩, .bool true]) := c_strings_Cut _ _ _ _ _ (evm (K := 8) (strings_Cut.mono _ _) (by decide +kernel)) (by decide) (by decide)
  have hn := number_c 25000 (by omega) []
  refine rl_texts_fixed rfl fun hw9 _ => ?_
  clear hw9
  repeat' ((conv => whnf); (first | refine Bth.mk ?_ ?_ | refine pickk0 ?_ | refine csp (fun h => ?_) (fun h => ?_) | refine clll (RetL.frame (hn) _ [0] rfl (by simp) rfl rfl) (fun _ _ => ?_) | refine clll (RetL.frame (whole_0 2) _ [0] rfl (by simp) rfl rfl) (fun _ _ => ?_) | (apply clqi; apply rq_texts_asked_tells rfl) | (apply clqi; apply rq_texts_fixed_1 rfl) | refine cllo (hr) (fun _ => ?_) | refine cllo (hp) (fun _ => ?_) | refine cllo (hcut) (fun _ => ?_) | refine cllo (value_Str _) (fun _ => ?_) | (refine sda ?_ ?_; (focus (first | rfl | exact of_decide_eq_true rfl | (simp; done)))) | refine sda ?_ ?_ | refine conk rfl ?_ | refine ldk rfl ?_ | refine mapk (fun x hx => ?_) | exact ⟨rfl, rfl⟩ | refine nilk (fun h => absurd h (of_decide_eq_false rfl)) ?_ | refine nilk (fun h => absurd h (List.cons_ne_nil _ _)) ?_ | refine nilk (fun h => ?_) ?_ | exact rfl | exact True.intro | refine leftk1 rfl ?_ | refine bytk8 rfl ?_ | refine bytk rfl ?_ | exact leftk0 rfl | refine eqk rfl ?_ | refine fLm rfl ?_ | refine fLk (by assumption) ?_ | refine fVk ?_ | refine fLVk ?_ | refine fWk ?_ | intro hl))
  all_goals conv => whnf
  all_goals trace_state
  all_goals sorry
theorem lv_LEFT : Ret Tryz.prog F_octavolaw18_ask [.str ⟨#[76, 69, 70, 84]⟩, .row false [cA (oA ⟨2, 0, bABC⟩), cA (oA ⟨1, 20000, e0⟩)]] (eV ⟨2, 0, ⟨#[97, 98]⟩⟩) := by
  have h := left_c bABC (by decide) 2 (by decide)
  rw [show strS (catL ((Vl.chars bABC).take (2 : Int).toNat)) = ⟨2, 0, ⟨#[97, 98]⟩⟩ by rw [chars_abc]; rfl] at h
  exact ask_LEFT _ _ _ _ rfl h
theorem lv_PROPER : Ret Tryz.prog F_octavolaw18_ask [.str ⟨#[80, 82, 79, 80, 69, 82]⟩, .row false [cA (oA ⟨2, 0, ⟨#[97, 66, 32, 99, 100]⟩⟩)]] (eV ⟨2, 0, ⟨#[65, 98, 32, 67, 100]⟩⟩) := by
  have h := prop_c ⟨#[97, 66, 32, 99, 100]⟩ (by decide)
  rw [show strS (prS ⟨#[97, 66, 32, 99, 100]⟩) = ⟨2, 0, ⟨#[65, 98, 32, 67, 100]⟩⟩ by
    have : prS ⟨#[97, 66, 32, 99, 100]⟩ = ⟨#[65, 98, 32, 67, 100]⟩ := by decide +kernel
    rw [this]
    rfl] at h
  exact ask_PROPER _ _ _ rfl h
theorem lv_FIND : Ret Tryz.prog F_octavolaw18_ask [.str ⟨#[70, 73, 78, 68]⟩, .row false [cA (oA ⟨2, 0, bC⟩), cA (oA ⟨2, 0, bABC⟩)]] (eV ⟨1, 30000, e0⟩) := ask_FIND _ _ _ _ rfl (lvl_find bABC bC rfl rfl)
end Go.Proofs.YtcbknemdidehlaaGreatDoor

/- TextsParts. -/
set_option maxRecDepth 100000
set_option linter.all false
namespace Go.Proofs.YtcbknemdidehlaaGreatDoor
open Ab R
theorem lv_FIXED : Ret Tryz.prog F_octavolaw18_ask [.str ⟨#[70, 73, 88, 69, 68]⟩, .row false [cA (oA ⟨1, 25000, e0⟩)]] (eV ⟨2, 0, b250⟩) := ask_FIXED _ _ _ rfl lvl_fixed
theorem l18_lives : Ret Tryz.prog F_octavolaw18_lives [] (.bool true) := by
  refine r_octavolaw18_lives rfl fun hw => ?_
  clear hw
  repeat' ((conv => whnf); (first | refine csp (fun h => ?_) (fun h => ?_) | refine cllo (lv_LEFT) (fun _ => ?_) | refine cllo (lv_FIND) (fun _ => ?_) | refine cllo (lv_FIXED) (fun _ => ?_) | refine cllo (lv_PROPER) (fun _ => ?_) | refine cllo (l18_number _) (fun _ => ?_) | refine cllo (l18_text _) (fun _ => ?_) | (refine sda ?_ ?_; (focus (first | rfl | (simp; done)))) | refine sda ?_ ?_ | refine conk rfl ?_ | refine ldk rfl ?_ | refine mapk (fun x hx => ?_) | exact ⟨rfl, rfl⟩ | refine nilk (fun h => ?_) ?_ | intro hl))
  all_goals conv => whnf
  all_goals rfl
theorem cat_cons (c : ByteArray) (l : List ByteArray) : catL (c :: l) = c ++ catL l := by
  apply ByteArray.ext
  apply Array.ext'
  simp [catL, ByteArray.data_append]
theorem cat_app (a b : List ByteArray) : catL (a ++ b) = catL a ++ catL b := by
  induction a with
  | nil =>
    apply ByteArray.ext
    apply Array.ext'
    simp [catL, ByteArray.data_append]
  | cons c a ih => rw [List.cons_append, cat_cons, cat_cons, ih, ByteArray.append_assoc]
theorem cat_chs9 (s : ByteArray) : ∀ (m pos : Nat), s.size ≤ pos + m → pos ≤ s.size → catL (Vl.chs s m pos) = s.extract pos s.size := by
  intro m
  induction m with
  | zero =>
    intro pos h h0
    have : pos = s.size := by omega
    subst this
    apply ByteArray.ext
    apply Array.ext'
    simp [Vl.chs, catL]
  | succ m ih =>
    intro pos h h0
    unfold Vl.chs
    by_cases c : pos < s.size
    · rw [if_pos c]
      obtain ⟨d1, d2, _⟩ := X.dec_facts s pos c
      rw [cat_cons, ih _ (by omega) (by omega), ByteArray.extract_append_extract]
      congr 1 <;> omega
    · rw [if_neg c]
      have : pos = s.size := by omega
      subst this
      apply ByteArray.ext
      apply Array.ext'
      simp [catL]
theorem cat_chars (s : ByteArray) : catL (Vl.chars s) = s := by
  have := cat_chs9 s s.size 0 (by omega) (by omega)
  rwa [ByteArray.extract_zero_size] at this
end Go.Proofs.YtcbknemdidehlaaGreatDoor

/- Layer 18: FIND of any texts. -/
set_option maxRecDepth 100000
set_option linter.all false
namespace Go.Proofs.YtcbknemdidehlaaGreatDoor
open Ab R P
def preB (x t : ByteArray) : Bool := (strings_HasPrefix.f x t).getD false
theorem pre_some (x t : ByteArray) : strings_HasPrefix.f x t = some (preB x t) := by
  have : (strings_HasPrefix.f x t).isSome = true := by
    unfold strings_HasPrefix.f stringslite_HasPrefix.f
    split
    · first | rfl | (rw [if_pos (by omega), if_pos (by omega)]; rfl)
    · rfl
  unfold preB
  obtain ⟨v, hv⟩ := Option.isSome_iff_exists.1 this
  rw [hv]
  rfl
theorem HasPrefix_c (x t : ByteArray) : Ret Tryz.prog F_strings_HasPrefix [.str x, .str t] (.bool (preB x t)) := c_strings_HasPrefix _ _ _ (pre_some x t)
theorem tk0 (l : List ByteArray) : List.take (((l.map cS).length : Int) - IntKind.i64.wrap (1 - 1)).toNat (List.drop (IntKind.i64.wrap (1 - 1)).toNat (l.map cS)) = l.map cS := by
  rw [show IntKind.i64.wrap (1 - 1) = 0 from rfl]
  simp
  exact List.take_of_length_le (by simp)
def fndS (t : ByteArray) : List ByteArray → Int → GV
  | [], k => if preB (catL []) t = true then ⟨1, k * 10000, e0⟩ else badS 2
  | c :: l, k => if preB (catL (c :: l)) t = true then ⟨1, k * 10000, e0⟩ else fndS t l (k + 1)
theorem ext_app (a b : ByteArray) : (a ++ b).extract a.size (a ++ b).size = b := by
  apply ByteArray.ext
  apply Array.ext'
  rw [ByteArray.data_extract, ByteArray.data_append, Array.toList_extract, Array.toList_append, List.extract_eq_take_drop, List.drop_append_of_le_length (by rw [Array.length_toList]; exact Nat.le_refl _)]
  rw [List.drop_eq_nil_of_le (by rw [Array.length_toList]; exact Nat.le_refl _), List.nil_append, List.take_of_length_le (by rw [Array.length_toList, ByteArray.size_append]; show b.size ≤ _; omega)]
theorem fndS_y {t : ByteArray} (l : List ByteArray) (k : Int) (h : preB (catL l) t = true) : fndS t l k = ⟨1, k * 10000, e0⟩ := by
  cases l <;> simp [fndS, h]
set_option maxHeartbeats 1600000 in
theorem finds_c (s t : ByteArray) (hs : s.size ≤ 255) (ht : t.size ≤ 255) : RetL Tryz.prog F_texts_finds_1 [.ptr 0 0, .elem [.fn F_texts_find_6 [] []]] [.box true [.row false [cA (oA ⟨2, 0, t⟩), cA (oA ⟨2, 0, s⟩)], .int .i64 0]] (eV (fndS t (Vl.chars s) 1)) [.box true [.row false [], .int .i64 0]] := by
  have t1 := text_c t ht [oA ⟨2, 0, s⟩]
  have t2 := text_c s hs []
  have i1 := find_6_c t
  have i2 := find_6_c s
  have T1a : RetL Tryz.prog F_texts_asked_text [.ptr 0 0] [.box true [.row false [cA (oA ⟨2, 0, t⟩), cA (oA ⟨2, 0, s⟩)], .int .i64 0], .box true [.int .i64 0, .int .i64 0, .str e0]] (.str t) [.box true [.row false [cA (oA ⟨2, 0, s⟩)], .int .i64 0], .box true [.int .i64 0, .int .i64 0, .str e0]] := RetL.frame t1 _ [0] rfl (by simp) rfl rfl
  have T1b : RetL Tryz.prog F_texts_asked_text [.ptr 0 0] [.box true [.row false [cA (oA ⟨2, 0, t⟩), cA (oA ⟨2, 0, s⟩)], .int .i64 0], .box true [.int .i64 0, .int .i64 0, .str e0], .box true [.str e0]] (.str t) [.box true [.row false [cA (oA ⟨2, 0, s⟩)], .int .i64 0], .box true [.int .i64 0, .int .i64 0, .str e0], .box true [.str e0]] := RetL.frame t1 _ [0] rfl (by simp) rfl rfl
  have T2a : RetL Tryz.prog F_texts_asked_text [.ptr 0 0] [.box true [.row false [cA (oA ⟨2, 0, s⟩)], .int .i64 0], .box true [.int .i64 0, .int .i64 0, .str e0]] (.str s) [.box true [.row false [], .int .i64 0], .box true [.int .i64 0, .int .i64 0, .str e0]] := RetL.frame t2 _ [0] rfl (by simp) rfl rfl
  have T2b : RetL Tryz.prog F_texts_asked_text [.ptr 0 0] [.box true [.row false [cA (oA ⟨2, 0, s⟩)], .int .i64 0], .box true [.int .i64 0, .int .i64 0, .str e0], .box true [.str e0]] (.str s) [.box true [.row false [], .int .i64 0], .box true [.int .i64 0, .int .i64 0, .str e0], .box true [.str e0]] := RetL.frame t2 _ [0] rfl (by simp) rfl rfl
  refine rl_texts_finds_1 rfl fun hw9 _ => ?_
  clear hw9 t1 t2
  conv => whnf
  refine Exists.intro (fun e z => e = [(0, .ptr 0 0), (3, .ptr 1 0), (4, .ptr 2 0), (5, .str s)] ∧ z = [.box true [.row false [], .int .i64 0], .box true [.int .i64 0, .int .i64 0, .str e0], .box true [.str t]]) ?_
  refine Bth.mk ?_ ?_
  · repeat' ((conv => whnf); (first | (with_reducible refine Bth.mk ?_ ?_) | (with_reducible refine clll T1a (fun _ _ => ?_)) | (with_reducible refine clll T1b (fun _ _ => ?_)) | (with_reducible refine clll T2a (fun _ _ => ?_)) | (with_reducible refine clll T2b (fun _ _ => ?_)) | (with_reducible refine cllo i1 (fun _ => ?_)) | (with_reducible refine cllo i2 (fun _ => ?_)) | (with_reducible exact True.intro) | (with_reducible refine fLVk ?_) | exact ⟨rfl, rfl⟩))
  · rintro _ _ ⟨rfl, rfl⟩
    clear T1a T1b T2a T2b i1 i2
    have hc := Chars_c s (by omega)
    have hsm := sm_chars hs
    have h9 := hsm.len
    generalize Vl.chars s = l at *
    have hj := fun els he => Join_r els l he hsm
    have hlm : (l.map cS).length = l.length := List.length_map _
    have k0 : (!decide (1 ≤ IntKind.i64.wrap (((l.map cS).length : Int) + 1))) = false := by
      rw [hlm, w64 (by omega), decide_eq_true (by omega)]
      rfl
    repeat' ((conv => whnf); (first | refine Bth.mk ?_ ?_ | refine csp_f (k0) ?_ | refine pickk0 ?_ | refine csp (fun h => ?_) (fun h => ?_) | refine clll (RetL.frame (whole_0 1) _ [0] rfl (by simp) rfl rfl) (fun _ _ => ?_) | refine cllo (hc) (fun _ => ?_) | (apply clqi; apply rq_texts_asked_tells rfl) | (apply clqi; apply rq_texts_finds_1_1 rfl) | refine cllo (hj _ (tk0 l)) (fun _ => ?_) | (refine sda ?_ ?_; (focus (first | rfl | exact of_decide_eq_true rfl | (simp; done)))) | refine sda ?_ ?_ | refine conk rfl ?_ | refine ldk rfl ?_ | refine mapk (fun x hx => ?_) | exact ⟨rfl, rfl⟩ | refine nilk (fun h => absurd h (of_decide_eq_false rfl)) ?_ | refine nilk (fun h => absurd h (List.cons_ne_nil _ _)) ?_ | refine nilk (fun h => ?_) ?_ | exact rfl | exact True.intro | refine leftk1 rfl ?_ | refine bytk8 rfl ?_ | refine bytk rfl ?_ | exact leftk0 rfl | refine eqk rfl ?_ | refine fLm rfl ?_ | refine fLk (by assumption) ?_ | refine fVk ?_ | refine fLVk ?_ | refine fWk ?_ | intro hl))
    all_goals conv => whnf
    · rw [hlm]
      exact ⟨by decide, by rw [show IntKind.i64.wrap (1 - 1) = 0 from rfl]; omega, by omega⟩
    · exact len1 hl
    refine .inl ⟨Nat, [0, 2, 3, 4, 5], [0, 1, 2, 3, 4, 5, 6], fun i => [(0, .ptr 4 0), (2, .ptr 2 0), (3, .ptr 6 0), (4, .str (catL (l.drop i))), (5, .int .i64 ((i : Int) + 1))],
      fun _ => [.box true [.row false [], .int .i64 0], .box true [.int .i64 0, .int .i64 0, .str e0], .box true [.str t], .box true [.int .i64 1], .box true [.row false (l.map cS)], .box true [.int .i64 0, .int .i64 0, .str e0], .box true [.int .i64 0, .int .i64 0, .str e0]],
      fun i => i ≤ l.length ∧ fndS t (l.drop i) ((i : Int) + 1) = fndS t l 1, fun i => l.length - i, rfl, ?_, fun i hi => ?_⟩
    · exact ⟨0, rfl, rfl, by simp⟩
    · obtain ⟨hi1, hi2⟩ := hi
      by_cases hb : preB (catL (l.drop i)) t = true
      · rw [fndS_y _ _ hb] at hi2
        repeat' ((conv => whnf); (first | refine Bth.mk ?_ ?_ | refine csp_t (hb) ?_ | refine pickk0 ?_ | refine csp (fun h => ?_) (fun h => ?_) | refine cllo (HasPrefix_c _ _) (fun _ => ?_) | refine cllo (texts_whole_c _ (by omega)) (fun _ => ?_) | (refine sda ?_ ?_; (focus (first | rfl | exact of_decide_eq_true rfl | (simp; done)))) | refine sda ?_ ?_ | refine conk rfl ?_ | refine ldk rfl ?_ | refine mapk (fun x hx => ?_) | exact ⟨rfl, rfl⟩ | refine nilk (fun h => absurd h (of_decide_eq_false rfl)) ?_ | refine nilk (fun h => absurd h (List.cons_ne_nil _ _)) ?_ | refine nilk (fun h => ?_) ?_ | exact rfl | exact True.intro | refine leftk1 rfl ?_ | refine bytk8 rfl ?_ | refine bytk rfl ?_ | exact leftk0 rfl | refine eqk rfl ?_ | refine fLm rfl ?_ | refine fLk (by assumption) ?_ | refine fVk ?_ | refine fLVk ?_ | refine fWk ?_ | intro hl))
        all_goals conv => whnf
        rw [← hi2]
        exact ⟨rfl, rfl⟩
      · have hb' : preB (catL (l.drop i)) t = false := by simpa using hb
        have hwi : IntKind.i64.wrap ((i : Int) + 1 - 1) = i := by rw [w64 (by omega)]; omega
        repeat' ((conv => whnf); (first | refine Bth.mk ?_ ?_ | refine csp_f (hb') ?_ | refine pickk0 ?_ | refine csp (fun h => ?_) (fun h => ?_) | refine cllo (HasPrefix_c _ _) (fun _ => ?_) | refine cllo (value_Bad _) (fun _ => ?_) | (refine sda ?_ ?_; (focus (first | rfl | exact of_decide_eq_true rfl | (simp; done)))) | refine sda ?_ ?_ | refine conk rfl ?_ | refine ldk rfl ?_ | refine mapk (fun x hx => ?_) | exact ⟨rfl, rfl⟩ | refine nilk (fun h => absurd h (of_decide_eq_false rfl)) ?_ | refine nilk (fun h => absurd h (List.cons_ne_nil _ _)) ?_ | refine nilk (fun h => ?_) ?_ | exact rfl | exact True.intro | refine leftk1 rfl ?_ | refine bytk8 rfl ?_ | refine bytk rfl ?_ | exact leftk0 rfl | refine eqk rfl ?_ | refine fLm rfl ?_ | refine fLk (by assumption) ?_ | refine fVk ?_ | refine fLVk ?_ | refine fWk ?_ | intro hl))
        all_goals conv => whnf
        · have h : decide ((i : Int) + 1 > ((l.map cS).length : Nat)) = true := by assumption
          have h := of_decide_eq_true h
          rw [hlm] at h
          rw [List.drop_eq_nil_of_le (by omega)] at hi2 hb'
          rw [fndS, if_neg (by rw [hb']; decide)] at hi2
          rw [← hi2]
          exact ⟨rfl, rfl⟩
        · have h : decide ((i : Int) + 1 > ((l.map cS).length : Nat)) = false := by assumption
          have h := of_decide_eq_false h
          rw [hlm] at h ⊢
          rw [hwi]
          omega
        · have hx : l[(IntKind.i64.wrap ((i : Int) + 1 - 1)).toNat]? = some x := by assumption
          rw [hwi, Int.toNat_natCast] at hx
          have hd : l.drop i = x :: l.drop (i + 1) := by
            obtain ⟨hlt, hx⟩ := List.getElem?_eq_some_iff.1 hx
            rw [List.drop_eq_getElem_cons hlt, hx]
          rw [hd, cat_cons, ByteArray.size_append]
          omega
        · have hx : l[(IntKind.i64.wrap ((i : Int) + 1 - 1)).toNat]? = some x := by assumption
          rw [hwi, Int.toNat_natCast] at hx
          obtain ⟨hlt, hx⟩ := List.getElem?_eq_some_iff.1 hx
          have hd : l.drop i = x :: l.drop (i + 1) := by rw [List.drop_eq_getElem_cons hlt, hx]
          have he : (catL (l.drop i)).extract ((x.size : Nat) : Int).toNat (((catL (l.drop i)).size : Nat) : Int).toNat = catL (l.drop (i + 1)) := by
            rw [hd, cat_cons, Int.toNat_natCast, Int.toNat_natCast]
            exact ext_app x (catL (l.drop (i + 1)))
          refine ⟨i + 1, ?_, rfl, ⟨by omega, ?_⟩, by show l.length - (i + 1) < l.length - i; omega⟩
          · have hw2 : IntKind.i64.wrap ((i : Int) + 1 + 1) = ((i + 1 : Nat) : Int) + 1 := by
              rw [w64 ⟨by omega, by omega⟩]
              omega
            rw [he, hw2]
          · rw [← hi2, hd, fndS, if_neg (by rw [← hd, hb']; decide)]
            rfl
end Go.Proofs.YtcbknemdidehlaaGreatDoor

/- Layer 18: rows of one's own; slices.Reverse; REVERSE. -/
set_option maxRecDepth 100000
set_option linter.all false
namespace Go.Proofs.YtcbknemdidehlaaGreatDoor
open Ab R P Vl Go.RowKit Go.Proofs.YtcbknemdidehlaaGreatDoorW.PrintWords Go.Proofs.YtcbknemdidehlaaGreatDoorW.PrintLast
theorem Ab.RetL.callsS {P : Program} {f : FuncId} {args : List V} {vs : List Value} {xs : List ByteArray} {T : Nat} (hcall : ∀ ar w, (callFunc f ar).run P w = .ok (.enter f ar) w) (ha : Sames args vs) (hz : ∀ c ∈ xs, c.size ≤ 9223372036854775807) (hne : xs ≠ [])
    (h : ∀ w, Calls P f vs.toArray w fun e w' => ∃ v0 : Value, e = .returned v0 ∧ Kd.R Kd.string T w' w.heap.size (fun _ => True) v0 xs ∧ Below w.heap.size w w') : RetL P f args [] (.sl 0 0 xs.length) [.arr true 1 (xs.map cS)] := by
  intro m w ys ι hmo rv
  have hι : ι = [] := List.eq_nil_of_length_eq_zero hmo.len
  subst hι
  rw [sames_repL ha rv]
  unfold CallsX
  rw [hcall]
  refine (h w).mono fun e w' ⟨v0, he, hR, hb⟩ => ?_
  have hok : m.ok w' := fun b o v hv => by
    rw [World.cell?_of_block (w := w) (a := ⟨b, o, none⟩) (hb.block b (hmo.mok.lt hv))]
    exact hmo.mok b o v hv
  obtain ⟨_, inner, ⟨hlen, ho⟩, hr⟩ := hR
  rcases ho with ⟨rfl, h0⟩ | ⟨g, cap, cur, rfl, hg, hh, hn, hcm, hsz, htake⟩
  · exact absurd (List.eq_nil_of_length_eq_zero h0) hne
  have hcell : ∀ (j : Nat) p, xs[j]? = some p → cur.toList[j]? = some (.string p) := fun j p hj => by
    have hlt : j < xs.length := (List.getElem?_eq_some_iff.1 hj).1
    have h3 : (inner.drop (j * 1)).take 1 = [Value.string p] := hr.2 j p hj
    rw [Nat.mul_one] at h3
    have h2 : inner[j]? = some (.string p) := by
      have : ((inner.drop j).take 1)[0]? = some (Value.string p) := by rw [h3]; rfl
      simpa using this
    rw [← htake, List.getElem?_take, if_pos (by show j < xs.length * 1; omega)] at h2
    exact h2
  have hz9 : xs.length ≤ 9223372036854775807 := by unfold maxLen at hcm; omega
  have hlm : (xs.map cS).length = xs.length := List.length_map _
  have hno : ∀ o, m g o = none := fun o => by
    cases q : m g o with
    | none => rfl
    | some v => have := hmo.mok.lt q; omega
  have hgl : g < w'.heap.size := (Array.getElem?_eq_some_iff.1 hh).1
  have hsz : cur.size = cap * 1 := hsz
  have ob : Ob m [⟨g, cap, 1, xs.length⟩] w' ⟨g, cap, 1, xs.length⟩ (.arr true 1 (xs.map cS)) := by
    refine ⟨cur.toList, T, (0, 0), rfl, by simpa using hh, by rw [Array.length_toList]; exact hsz, by rw [hlm]; exact hn, hlm, by rw [hlm]; exact hz9, fun el hel => ?_, fun i j el c hi hj => ?_, ⟨Nat.le_refl _, fun i _ q => by simp at q⟩, fun o _ => hno o, fun _ o => hno o⟩
    · obtain ⟨p, _, rfl⟩ := List.mem_map.1 hel
      rfl
    · rw [List.getElem?_map] at hi
      cases hx : xs[i]? with
      | none => rw [hx] at hi; cases hi
      | some p =>
        rw [hx] at hi
        cases hi
        cases j with
        | zero =>
          cases hj
          refine ⟨_, ?_, .str [] p (hz p (List.mem_of_getElem? hx))⟩
          rw [Nat.mul_one, Nat.add_zero]
          exact hcell i p hx
        | succ j => cases hj
  refine ⟨_, he, m, [⟨g, cap, 1, xs.length⟩], ?_, ?_⟩
  · exact
    { mle := fun _ _ _ q => q
      glo := hmo.glo
      mok := hok
      fresh := fun b o x hx h0 => by rw [hx] at h0; cases h0
      below := hmo.below.on hb
      len := rfl
      obj := fun i o β ho hβ => by
        cases i with
        | zero => cases ho; cases hβ; exact ob
        | succ i => cases ho
      own := fun i o β ho hβ _ => by
        cases i with
        | zero => cases ho; cases hβ; exact ⟨.inl hg, hgl⟩
        | succ i => cases ho
      inj := fun i j o p β γ ho hp hβ hγ _ _ hij => by
        cases i with
        | zero =>
          cases j with
          | zero => exact absurd rfl hij
          | succ j => cases hp
        | succ i => cases ho
      pin := fun i β hi => by cases i <;> cases hi }
  · exact .sl _ 0 0 xs.length _ cap ⟨g, cap, 1, xs.length⟩ rfl hn (by simp) (by simp) hz9 (fun _ => by simp)
end Go.Proofs.YtcbknemdidehlaaGreatDoor

/- TextsTurns. -/
set_option maxRecDepth 100000
set_option linter.all false
namespace Go.Proofs.YtcbknemdidehlaaGreatDoor
open Ab R P Vl Go.RowKit Go.Proofs.YtcbknemdidehlaaGreatDoorW.PrintWords Go.Proofs.YtcbknemdidehlaaGreatDoorW.PrintLast
theorem strS_le {s : ByteArray} (h : s.size ≤ 255) : strS s = ⟨2, 0, s⟩ := if_neg (by omega)
end Go.Proofs.YtcbknemdidehlaaGreatDoor

/- TextsFinds. (The shelf's words: laysh.py with SHEX=sh18.txt.) -/
set_option maxRecDepth 100000
set_option linter.all false
namespace Go.Proofs.YtcbknemdidehlaaGreatDoor
open Ab R P Vl Go.RowKit
/-- A walk's word that asks for the library's variable. -/
theorem Ab.Ret.callsG {P : Program} {f : FuncId} {args : List V} {vs : List Value} {r : V} {x : Value} (hcall : ∀ ar w, (callFunc f ar).run P w = .ok (.enter f ar) w) (ha : Sames args vs) (hr : Fits r x) (hg : 0 ∈ gvars)
    (h : ∀ (w : World) (n : Int), w.cell? ⟨0, 0, none⟩ = some (.int .i64 n) → Calls P f vs.toArray w fun e w' => e = .returned x ∧ Below w.heap.size w w') : Ret P f args r := by
  intro m w ys hG hm rv
  rw [sames_repL ha rv]
  unfold CallsX
  rw [hcall]
  obtain ⟨n, hn⟩ := hG 0 hg
  refine (h w n (hm _ _ _ hn)).mono fun e w' ⟨he, hb⟩ => ⟨x, he, m, fun _ _ _ q => q, fun b o v hv => ?_, hr m, hb, fun b o y hy hn => by rw [hy] at hn; cases hn⟩
  rw [World.cell?_of_block (w := w) (a := ⟨b, o, none⟩) (hb.block b (hm.lt hv))]
  exact hm b o v hv
theorem g0 : 0 ∈ gvars := List.mem_singleton.2 rfl
def repAB (s t u : ByteArray) : ByteArray := ⟨(Lib.replaceAll s.data.toList t.data.toList u.data.toList).toArray⟩
theorem ReplaceAll_c (s t u : ByteArray) (hs : s.size ≤ 255) (ht : 1 ≤ t.size) (hu : u.size ≤ 255) (hz : (repAB s t u).size ≤ 140737488355328) : Ret Tryz.prog F_strings_ReplaceAll [.str s, .str t, .str u] (.str (repAB s t u)) := by
  refine Ab.Ret.callsG Tryz.call133 (vs := [.string s, .string t, .string u]) (x := .string (repAB s t u)) ⟨same_str s, same_str t, same_str u, True.intro⟩ (fits_str (by omega)) g0 (fun w n hn => ?_)
  have h9 := Lib.countB_le t ht s.size s (Nat.le_refl _)
  refine Tryz.strings_ReplaceAll s t u n w (by omega) hn ht ?_
  have : Lib.countB s t * u.size ≤ 255 * 255 := Nat.mul_le_mul (by omega) hu
  omega
theorem rep_same (s t : ByteArray) : repAB s t t = s := by
  apply ByteArray.ext
  apply Array.ext'
  simp [repAB, Lib.replaceAll, Lib.replace]
theorem size_pos {t : ByteArray} (h : t ≠ e0) : 1 ≤ t.size := by
  rcases Nat.eq_zero_or_pos t.size with q | q
  · refine absurd ?_ h
    apply ByteArray.ext
    exact Array.eq_empty_of_size_eq_zero q
  · exact q
theorem subst_c (s t u : ByteArray) (hs : s.size ≤ 255) (ht : t.size ≤ 255) (hu : u.size ≤ 255) (h0 : t ≠ e0) (r : ByteArray) (hr : Ret Tryz.prog F_strings_ReplaceAll [.str s, .str t, .str u] (.str r)) :
    RetL Tryz.prog F_texts_substitute [.ptr 0 0] [.box true [.row false [cA (oA ⟨2, 0, s⟩), cA (oA ⟨2, 0, t⟩), cA (oA ⟨2, 0, u⟩)], .int .i64 0]] (eV (strS r)) [.box true [.row false [], .int .i64 0]] := by
  have a2 : decide (t = e0) = false := decide_eq_false h0
  refine rl_texts_substitute rfl fun hw9 _ => ?_
  clear hw9
  repeat' ((conv => whnf); (first | refine Bth.mk ?_ ?_ | refine pickk0 ?_ | refine csp (fun h => ?_) (fun h => ?_) | refine clll (RetL.frame (text_c s hs [oA ⟨2, 0, t⟩, oA ⟨2, 0, u⟩]) _ [0] rfl (by simp) rfl rfl) (fun _ _ => ?_) | refine clll (RetL.frame (text_c t ht [oA ⟨2, 0, u⟩]) _ [0] rfl (by simp) rfl rfl) (fun _ _ => ?_) | refine clll (RetL.frame (text_c u hu []) _ [0] rfl (by simp) rfl rfl) (fun _ _ => ?_) | refine clll (RetL.frame (whole_0 1) _ [0] rfl (by simp) rfl rfl) (fun _ _ => ?_) | (apply clqi; apply rq_texts_asked_tells rfl) | (apply clqi; apply rq_texts_substitute_1 rfl) | refine cllo (hr) (fun _ => ?_) | refine cllo (value_Str _) (fun _ => ?_) | (refine sda ?_ ?_; (focus (first | rfl | exact of_decide_eq_true rfl | (simp; done)))) | refine sda ?_ ?_ | refine conk rfl ?_ | refine ldk rfl ?_ | refine mapk (fun x hx => ?_) | exact ⟨rfl, rfl⟩ | refine nilk (fun h => absurd h (of_decide_eq_false rfl)) ?_ | refine nilk (fun h => absurd h (List.cons_ne_nil _ _)) ?_ | refine nilk (fun h => ?_) ?_ | exact rfl | exact True.intro | refine leftk1 rfl ?_ | refine bytk8 rfl ?_ | refine bytk rfl ?_ | exact leftk0 rfl | refine eqk rfl ?_ | refine fLm rfl ?_ | refine fLk (by assumption) ?_ | refine fVk ?_ | refine fLVk ?_ | refine fWk ?_ | intro hl))
  all_goals conv => whnf
  exact absurd (of_decide_eq_true h) h0
theorem subst_0 (s u : ByteArray) (hs : s.size ≤ 255) (hu : u.size ≤ 255) :
    RetL Tryz.prog F_texts_substitute [.ptr 0 0] [.box true [.row false [cA (oA ⟨2, 0, s⟩), cA (oA ⟨2, 0, e0⟩), cA (oA ⟨2, 0, u⟩)], .int .i64 0]] (eV (strS s)) [.box true [.row false [], .int .i64 0]] := by
  refine rl_texts_substitute rfl fun hw9 _ => ?_
  clear hw9
  repeat' ((conv => whnf); (first | refine Bth.mk ?_ ?_ | refine pickk0 ?_ | refine csp (fun h => ?_) (fun h => ?_) | refine clll (RetL.frame (text_c s hs [oA ⟨2, 0, e0⟩, oA ⟨2, 0, u⟩]) _ [0] rfl (by simp) rfl rfl) (fun _ _ => ?_) | refine clll (RetL.frame (text_c e0 (by decide) [oA ⟨2, 0, u⟩]) _ [0] rfl (by simp) rfl rfl) (fun _ _ => ?_) | refine clll (RetL.frame (text_c u hu []) _ [0] rfl (by simp) rfl rfl) (fun _ _ => ?_) | refine clll (RetL.frame (whole_0 1) _ [0] rfl (by simp) rfl rfl) (fun _ _ => ?_) | (apply clqi; apply rq_texts_asked_tells rfl) | (apply clqi; apply rq_texts_substitute_1 rfl) | refine cllo (value_Str _) (fun _ => ?_) | (refine sda ?_ ?_; (focus (first | rfl | exact of_decide_eq_true rfl | (simp; done)))) | refine sda ?_ ?_ | refine conk rfl ?_ | refine ldk rfl ?_ | refine mapk (fun x hx => ?_) | exact ⟨rfl, rfl⟩ | refine nilk (fun h => absurd h (of_decide_eq_false rfl)) ?_ | refine nilk (fun h => absurd h (List.cons_ne_nil _ _)) ?_ | refine nilk (fun h => ?_) ?_ | exact rfl | exact True.intro | refine leftk1 rfl ?_ | refine bytk8 rfl ?_ | refine bytk rfl ?_ | exact leftk0 rfl | refine eqk rfl ?_ | refine fLm rfl ?_ | refine fLk (by assumption) ?_ | refine fVk ?_ | refine fLVk ?_ | refine fWk ?_ | intro hl))
  all_goals conv => whnf
theorem subst_same (s t : ByteArray) (hs : s.size ≤ 255) (ht : t.size ≤ 255) :
    RetL Tryz.prog F_texts_substitute [.ptr 0 0] [.box true [.row false [cA (oA ⟨2, 0, s⟩), cA (oA ⟨2, 0, t⟩), cA (oA ⟨2, 0, t⟩)], .int .i64 0]] (eV (strS s)) [.box true [.row false [], .int .i64 0]] := by
  by_cases h0 : t = e0
  · subst h0
    exact subst_0 s e0 hs ht
  · have := ReplaceAll_c s t t hs (size_pos h0) ht (by rw [rep_same]; omega)
    rw [rep_same] at this
    exact subst_c s t t hs ht ht h0 s this
theorem fndS_at (t : ByteArray) : ∀ (l : List ByteArray) (k : Int), fndS t l k = badS 2 ∨ ∃ j : Nat, j ≤ l.length ∧ fndS t l k = ⟨1, (k + j) * 10000, e0⟩ ∧ preB (catL (l.drop j)) t = true
  | [], k => by
    by_cases h : preB (catL []) t = true
    · exact .inr ⟨0, Nat.le_refl _, by rw [fndS, if_pos h]; simp, h⟩
    · exact .inl (by rw [fndS, if_neg h])
  | c :: l, k => by
    by_cases h : preB (catL (c :: l)) t = true
    · exact .inr ⟨0, Nat.zero_le _, by rw [fndS, if_pos h]; simp, h⟩
    · rcases fndS_at t l (k + 1) with q | ⟨j, h1, h2, h3⟩
      · exact .inl (by rw [fndS, if_neg h, q])
      · refine .inr ⟨j + 1, by simp; omega, ?_, h3⟩
        rw [fndS, if_neg h, h2]
        congr 2
        omega
theorem pre_out {x t : ByteArray} (h : preB x t = true) : t.size ≤ x.size ∧ x.extract 0 t.size = t := by
  unfold preB strings_HasPrefix.f stringslite_HasPrefix.f at h
  split at h
  · rename_i hc
    have h : ((x.extract 0 ((t.size : Int)).toNat).toList == t.toList) = true := by
      first
        | exact h
        | (rw [if_pos (by omega), if_pos (by omega)] at h; exact h)
    refine ⟨by omega, ?_⟩
    rw [Int.toNat_natCast] at h
    have h := eq_of_beq h
    apply ByteArray.ext
    apply Array.ext'
    simpa [ByteArray.toList_eq] using h
  · simp at h
theorem finds_law (s t : ByteArray) : Ret Tryz.prog F_octavolaw18_TextsFinds [.str s, .str t] (.bool true) := by
  by_cases hs : s.size ≤ 255
  rotate_left
  · refine r_octavolaw18_TextsFinds rfl fun hw => ?_
    clear hw
    have h0 : decide ((s.size : Int) > 255) = true := decide_eq_true (by omega)
    repeat' ((conv => whnf); (first | refine Bth.mk ?_ ?_ | refine csp_t (h0) ?_ | refine pickk0 ?_ | refine csp (fun h => ?_) (fun h => ?_) | refine cllo (l18_lives) (fun _ => ?_) | (refine sda ?_ ?_; (focus (first | rfl | exact of_decide_eq_true rfl | (simp; done)))) | refine sda ?_ ?_ | refine conk rfl ?_ | refine ldk rfl ?_ | refine mapk (fun x hx => ?_) | exact ⟨rfl, rfl⟩ | refine nilk (fun h => absurd h (of_decide_eq_false rfl)) ?_ | refine nilk (fun h => absurd h (List.cons_ne_nil _ _)) ?_ | refine nilk (fun h => ?_) ?_ | exact rfl | exact True.intro | refine leftk1 rfl ?_ | refine bytk8 rfl ?_ | refine bytk rfl ?_ | exact leftk0 rfl | refine eqk rfl ?_ | refine fLm rfl ?_ | refine fLk (by assumption) ?_ | refine fVk ?_ | refine fLVk ?_ | refine fWk ?_ | intro hl))
    all_goals conv => whnf
  have h0 : decide ((s.size : Int) > 255) = false := decide_eq_false (by omega)
  by_cases ht : t.size ≤ 255
  rotate_left
  · refine r_octavolaw18_TextsFinds rfl fun hw => ?_
    clear hw
    have h1 : decide ((t.size : Int) > 255) = true := decide_eq_true (by omega)
    repeat' ((conv => whnf); (first | refine Bth.mk ?_ ?_ | refine csp_t (h1) ?_ | refine csp_f (h0) ?_ | refine pickk0 ?_ | refine csp (fun h => ?_) (fun h => ?_) | refine cllo (l18_lives) (fun _ => ?_) | (refine sda ?_ ?_; (focus (first | rfl | exact of_decide_eq_true rfl | (simp; done)))) | refine sda ?_ ?_ | refine conk rfl ?_ | refine ldk rfl ?_ | refine mapk (fun x hx => ?_) | exact ⟨rfl, rfl⟩ | refine nilk (fun h => absurd h (of_decide_eq_false rfl)) ?_ | refine nilk (fun h => absurd h (List.cons_ne_nil _ _)) ?_ | refine nilk (fun h => ?_) ?_ | exact rfl | exact True.intro | refine leftk1 rfl ?_ | refine bytk8 rfl ?_ | refine bytk rfl ?_ | exact leftk0 rfl | refine eqk rfl ?_ | refine fLm rfl ?_ | refine fLk (by assumption) ?_ | refine fVk ?_ | refine fLVk ?_ | refine fWk ?_ | intro hl))
    all_goals conv => whnf
  have h1 : decide ((t.size : Int) > 255) = false := decide_eq_false (by omega)
  have hF := ask_FIND _ _ _ _ rfl (finds_c s t hs ht)
  have h9 := (sm_chars hs).len
  rcases fndS_at t (Vl.chars s) 1 with q | ⟨j, hj1, hj2, hj3⟩
  · rw [q] at hF
    refine r_octavolaw18_TextsFinds rfl fun hw => ?_
    clear hw
    repeat' ((conv => whnf); (first | refine Bth.mk ?_ ?_ | refine csp_f (h0) ?_ | refine csp_f (h1) ?_ | refine pickk0 ?_ | refine csp (fun h => ?_) (fun h => ?_) | refine cllo (l18_text _) (fun _ => ?_) | refine cllo (hF) (fun _ => ?_) | refine cllo (l18_lives) (fun _ => ?_) | (refine sda ?_ ?_; (focus (first | rfl | exact of_decide_eq_true rfl | (simp; done)))) | refine sda ?_ ?_ | refine conk rfl ?_ | refine ldk rfl ?_ | refine mapk (fun x hx => ?_) | exact ⟨rfl, rfl⟩ | refine nilk (fun h => absurd h (of_decide_eq_false rfl)) ?_ | refine nilk (fun h => absurd h (List.cons_ne_nil _ _)) ?_ | refine nilk (fun h => ?_) ?_ | exact rfl | exact True.intro | refine leftk1 rfl ?_ | refine bytk8 rfl ?_ | refine bytk rfl ?_ | exact leftk0 rfl | refine eqk rfl ?_ | refine fLm rfl ?_ | refine fLk (by assumption) ?_ | refine fVk ?_ | refine fLVk ?_ | refine fWk ?_ | intro hl))
    all_goals conv => whnf
  · rw [hj2] at hF
    have hM := ask_MID _ _ _ _ _ rfl (mid_c s hs (1 + (j : Int)) 255 ⟨by omega, by omega⟩ ⟨by omega, by omega⟩)
    have hcat : (catL ((Vl.chars s).take j)).size + (catL ((Vl.chars s).drop j)).size = s.size := by rw [← ByteArray.size_append, ← cat_app, List.take_append_drop, cat_chars]
    rw [show (1 + (j : Int) - 1).toNat = j by omega, List.take_of_length_le (by simp; omega), strS_le (by omega)] at hM
    have hS := ask_SUBSTITUTE _ _ _ _ _ rfl (subst_same s t hs ht)
    rw [strS_le hs] at hS
    obtain ⟨p1, p2⟩ := pre_out hj3
    generalize catL ((Vl.chars s).drop j) = X at *
    have q1 : decide ((X.size : Int) ≥ (t.size : Int)) = true := decide_eq_true (by omega)
    have q2 : decide (X.extract (Int.toNat 0) ((t.size : Nat) : Int).toNat = t) = true := by
      rw [Int.toNat_natCast]
      exact decide_eq_true p2
    have q3 : decide (s = s) = true := decide_eq_true rfl
    refine r_octavolaw18_TextsFinds rfl fun hw => ?_
    clear hw
    repeat' ((conv => whnf); (first | refine Bth.mk ?_ ?_ | refine csp_t (q1) ?_ | refine csp_t (q2) ?_ | refine csp_t (q3) ?_ | refine csp_f (h0) ?_ | refine csp_f (h1) ?_ | refine pickk0 ?_ | refine csp (fun h => ?_) (fun h => ?_) | refine cllo (l18_text _) (fun _ => ?_) | refine cllo (l18_one _) (fun _ => ?_) | refine cllo (l18_number _) (fun _ => ?_) | refine cllo (hF) (fun _ => ?_) | refine cllo (hM) (fun _ => ?_) | refine cllo (hS) (fun _ => ?_) | refine cllo (l18_lives) (fun _ => ?_) | (refine sda ?_ ?_; (focus (first | rfl | exact of_decide_eq_true rfl | (simp; done)))) | refine sda ?_ ?_ | refine conk rfl ?_ | refine ldk rfl ?_ | refine mapk (fun x hx => ?_) | exact ⟨rfl, rfl⟩ | refine nilk (fun h => absurd h (of_decide_eq_false rfl)) ?_ | refine nilk (fun h => absurd h (List.cons_ne_nil _ _)) ?_ | refine nilk (fun h => ?_) ?_ | exact rfl | exact True.intro | refine leftk1 rfl ?_ | refine bytk8 rfl ?_ | refine bytk rfl ?_ | exact leftk0 rfl | refine eqk rfl ?_ | refine fLm rfl ?_ | refine fLk (by assumption) ?_ | refine fVk ?_ | refine fLVk ?_ | refine fWk ?_ | intro hl))
    all_goals conv => whnf
    show 0 ≤ (0 : Int) ∧ 0 ≤ (t.size : Int) ∧ (t.size : Int) ≤ (X.size : Int)
    omega
theorem textsFinds_ret (s t : ByteArray) (h1 : s.size ≤ 140737488351232) (h2 : t.size ≤ 140737488351232) : Ret Tryz.prog F_octavolaw18_TextsFinds [.str s, .str t] (.bool true) := finds_law s t
end Go.Proofs.YtcbknemdidehlaaGreatDoor
