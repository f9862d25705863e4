/- A small reckoner over values without memory: its values, its rules. -/
import Derived.Calls
import Derived.Orders
import Derived.Below
import Derived.KernelRfl
namespace Go.Proofs.Ytkkfclpodgagdaa.Ab
set_option linter.unusedVariables false

/-- Values without memory. `ptr`, `eptr`, `sl`, `map` name objects of the frame's own; `elem`, `row` are memory that no one writes any more. -/
inductive V where
  | undef
  | int (k : IntKind) (n : Int)
  | bool (b : Bool)
  | str (s : ByteArray)
  | nilFn
  | fn (f : FuncId) (first captured : List V)
  | nilPtr
  | ptr (id off : Nat)
  | eptr (id i off : Nat)
  | elem (cs : List V)
  | row (x : Bool) (els : List (List V))
  | sl (id off len : Nat)
  | nilMap
  | map (id : Nat)
  | nilI
  | iface (t : TypeId) (v : V)
  | agg (cs : List V)
  | tup (vs : List V)

/-- Objects of the frame: a variable, a row that is appended to, a map. -/
inductive O where
  | gone
  | box (w : Bool) (cs : List V)
  | arr (w : Bool) (sz : Nat) (els : List (List V))
  | map (w : Bool) (es : List (V × V))

abbrev Env := List (Nat × V)
def Env.get : Env → Nat → V
  | [], _ => .undef
  | (k, v) :: e, n => match Nat.beq k n with | true => v | false => Env.get e n
def Env.set : Env → Nat → V → Env
  | [], n, v => [(n, v)]
  | (k, u) :: e, n, v => match Nat.beq k n with | true => (k, v) :: e | false => (k, u) :: Env.set e n v
def Env.put (e : Env) (d : Option Tmp) (v : V) : Env := match d with | some t => e.set t v | none => e
def Env.keep (e : Env) (ks : List Nat) : Env := ks.map fun n => (n, e.get n)

/-- the list's part at a place -/
def at? {α : Type} : List α → Nat → Option α
  | [], _ => none
  | a :: _, 0 => some a
  | _ :: l, n + 1 => at? l n

def leaf : Value → V
  | .int k n => .int k n
  | .bool b => .bool b
  | .string s => .str s
  | .nilFunc => .nilFn
  | .pointer none => .nilPtr
  | .slice none 0 0 => .row true []
  | .map none => .nilMap
  | .nilIface => .nilI
  | _ => .undef
def ofC : Value → V
  | .agg cs => .agg (cs.toList.map leaf)
  | .tuple cs => .tup (cs.toList.map leaf)
  | v => leaf v
/-- A constant as it stands in code: is it within its kind? -/
def leafOk : Value → Bool
  | .int k n => k.wrap n == n
  | .string s => Nat.ble s.size 9223372036854775807
  | _ => true
def cOk : Value → Bool
  | .agg cs => cs.toList.all leafOk
  | .tuple cs => cs.toList.all leafOk
  | v => leafOk v

def ev (e : Env) : Operand → V
  | .tmp t => e.get t
  | .const v => ofC v
  | .global _ => .undef
  | .func f => .fn f [] []

/-- What leaves the frame: pointers to its variables become pointers to what stands there, for good. -/
def frz : Nat → List O → V → V
  | 0, _, _ => .undef
  | n + 1, s, .ptr id off => match at? s id with | some (.box _ cs) => .elem ((cs.drop off).map (frz n s)) | _ => .undef
  | n + 1, s, .eptr id i off => match at? s id with | some (.arr _ _ els) => .elem (((at? els i).getD []).drop off) | _ => .undef
  | n + 1, s, .sl id off len => match at? s id with | some (.arr _ _ els) => .row false ((els.drop off).take len) | _ => .undef
  | _ + 1, _, .map _ => .undef
  | _ + 1, _, .row _ els => .row false els
  | n + 1, s, .fn f a b => .fn f (a.map (frz n s)) (b.map (frz n s))
  | n + 1, s, .iface t v => .iface t (frz n s v)
  | n + 1, s, .agg cs => .agg (cs.map (frz n s))
  | n + 1, s, .tup cs => .tup (cs.map (frz n s))
  | _ + 1, _, v => v
/-- the objects that are met on the way -/
def idl : Nat → List O → V → List Nat
  | 0, _, _ => []
  | n + 1, s, .ptr id off => id :: (match at? s id with | some (.box _ cs) => (cs.drop off).flatMap (idl n s) | _ => [])
  | _ + 1, _, .eptr id _ _ => [id]
  | _ + 1, _, .sl id _ _ => [id]
  | n + 1, s, .fn _ a b => a.flatMap (idl n s) ++ b.flatMap (idl n s)
  | n + 1, s, .iface _ v => idl n s v
  | n + 1, s, .agg cs => cs.flatMap (idl n s)
  | n + 1, s, .tup cs => cs.flatMap (idl n s)
  | _ + 1, _, _ => []
def O.ro : O → O
  | .box _ cs => .box false cs
  | .arr _ z els => .arr false z els
  | o => o
def setAt {α : Type} : List α → Nat → α → List α
  | [], _, _ => []
  | _ :: l, 0, x => x :: l
  | a :: l, n + 1, x => a :: setAt l n x
def mark (s : List O) : List Nat → List O
  | [] => s
  | i :: is => mark (match at? s i with | some o => setAt s i o.ro | none => s) is

/-- Objects that are kept, in a new order; the others are forgotten. -/
def pos? : List Nat → Nat → Option Nat
  | [], _ => none
  | a :: l, i => match Nat.beq a i with | true => some 0 | false => (pos? l i).map (· + 1)
def ren : Nat → List Nat → V → V
  | 0, _, _ => .undef
  | _ + 1, g, .ptr id off => match pos? g id with | some j => .ptr j off | none => .undef
  | _ + 1, g, .eptr id i off => match pos? g id with | some j => .eptr j i off | none => .undef
  | _ + 1, g, .sl id off len => match pos? g id with | some j => .sl j off len | none => .undef
  | _ + 1, g, .map id => match pos? g id with | some j => .map j | none => .undef
  | n + 1, g, .fn f a b => .fn f (a.map (ren n g)) (b.map (ren n g))
  | n + 1, g, .iface t v => .iface t (ren n g v)
  | n + 1, g, .agg cs => .agg (cs.map (ren n g))
  | n + 1, g, .tup cs => .tup (cs.map (ren n g))
  | _ + 1, _, v => v
def O.ren (g : List Nat) : O → O
  | .box w cs => .box w (cs.map (Ab.ren 8 g))
  | o => o
def selO (s : List O) (g : List Nat) : List O := g.map fun i => ((at? s i).getD .gone).ren g

def nd : List Nat → Bool
  | [] => true
  | a :: l => (match pos? l a with | none => true | some _ => false) && nd l

/-- A value that fits into one cell. -/
def leafV : V → Bool
  | .undef => false
  | .agg _ => false
  | .tup _ => false
  | _ => true
/-- The cells of a value. -/
def cellsV : V → Option (List V)
  | .undef => none
  | .agg cs => some cs
  | .tup _ => none
  | v => some [v]

/-- Two ways, by a truth. -/
def csplit (b : Bool) (A B : Prop) : Prop := match b with | true => A | false => B
theorem csp {b : Bool} {A B : Prop} (ha : b = true → A) (hb : b = false → B) : csplit b A B := by cases b; exact hb rfl; exact ha rfl
theorem csp_t {b : Bool} {A B : Prop} (h : b = true) (ha : A) : csplit b A B := by subst h; exact ha
theorem csp_f {b : Bool} {A B : Prop} (h : b = false) (hb : B) : csplit b A B := by subst h; exact hb
/-- A condition that is owed. -/
structure Sd (p : Prop) : Prop where
  out : p

/-- Values laid open before the work goes on. -/
def fL {α : Type} (f : α → (α → Prop) → Prop) : List α → (List α → Prop) → Prop
  | [], K => K []
  | a :: l, K => f a fun a => fL f l fun l => K (a :: l)
def fV : Nat → V → (V → Prop) → Prop
  | 0, v, K => K v
  | _ + 1, .undef, K => K .undef
  | _ + 1, .int k n, K => K (.int k n)
  | _ + 1, .bool b, K => K (.bool b)
  | _ + 1, .str s, K => K (.str s)
  | _ + 1, .nilFn, K => K .nilFn
  | n + 1, .fn f a b, K => fL (fV n) a fun a => fL (fV n) b fun b => K (.fn f a b)
  | _ + 1, .nilPtr, K => K .nilPtr
  | _ + 1, .ptr i o, K => K (.ptr i o)
  | _ + 1, .eptr i j o, K => K (.eptr i j o)
  | n + 1, .elem cs, K => fL (fV n) cs fun cs => K (.elem cs)
  | _ + 1, .row x els, K => K (.row x els)
  | _ + 1, .sl i o l, K => K (.sl i o l)
  | _ + 1, .nilMap, K => K .nilMap
  | _ + 1, .map i, K => K (.map i)
  | _ + 1, .nilI, K => K .nilI
  | n + 1, .iface t v, K => fV n v fun v => K (.iface t v)
  | n + 1, .agg cs, K => fL (fV n) cs fun cs => K (.agg cs)
  | n + 1, .tup cs, K => fL (fV n) cs fun cs => K (.tup cs)
def fO (o : O) (K : O → Prop) : Prop :=
  match o with
  | .gone => K .gone
  | .box w cs => fL (fV 4) cs fun cs => K (.box w cs)
  | .arr w z els => K (.arr w z els)
  | .map w es => K (.map w es)
theorem fL_eq {α : Type} {f : α → (α → Prop) → Prop} (hf : ∀ a K, f a K = K a) : ∀ (l : List α) (K : List α → Prop), fL f l K = K l
  | [], _ => rfl
  | a :: l, K => by simp only [fL, hf, fL_eq hf l]
theorem fV_eq : ∀ (n : Nat) (v : V) (K : V → Prop), fV n v K = K v
  | 0, _, _ => rfl
  | n + 1, v, K => by cases v <;> simp only [fV, fL_eq (fV_eq n), fV_eq n]
theorem fO_eq (o : O) (K : O → Prop) : fO o K = K o := by cases o <;> simp only [fO, fL_eq (fV_eq 4)]
def setK : Env → Nat → V → (Env → Prop) → Prop
  | [], n, v, K => K [(n, v)]
  | (k, u) :: e, n, v, K => match Nat.beq k n with | true => K ((k, v) :: e) | false => setK e n v fun e => K ((k, u) :: e)
def putK (e : Env) (d : Option Tmp) (v : V) (K : Env → Prop) : Prop := match d with | some t => setK e t v K | none => K e
def keepK (f : V → V) (e : Env) : List Nat → (Env → Prop) → Prop
  | [], K => K []
  | n :: ns, K => fV 4 (f (e.get n)) fun v => keepK f e ns fun r => K ((n, v) :: r)
theorem setK_eq : ∀ (e : Env) (n : Nat) (v : V) (K : Env → Prop), setK e n v K = K (e.set n v)
  | [], _, _, _ => rfl
  | (k, u) :: e, n, v, K => by
    simp only [setK, Env.set]
    cases h : Nat.beq k n
    · exact setK_eq e n v _
    · rfl
theorem putK_eq (e : Env) (d : Option Tmp) (v : V) (K : Env → Prop) : putK e d v K = K (e.put d v) := by
  cases d
  · rfl
  · exact setK_eq _ _ _ _
theorem keepK_eq (f : V → V) (e : Env) : ∀ (ns : List Nat) (K : Env → Prop), keepK f e ns K = K (ns.map fun n => (n, f (e.get n)))
  | [], _ => rfl
  | n :: ns, K => by simp only [keepK, fV_eq, keepK_eq f e ns, List.map_cons]
/-- a truth that is known now stands in its slot -/
def setB (e : Env) (x : Operand) (b : Bool) (K : Env → Prop) : Prop := match x with | .tmp t => setK e t (.bool b) K | _ => K e

/-- A small number as a numeral. -/
def pickN : List Nat → Nat → (Nat → Prop) → Prop
  | [], n, K => K n
  | c :: cs, n, K => match Nat.beq c n with | true => K c | false => pickN cs n K
def litK (n : Nat) (K : Nat → Prop) : Prop := pickN [0, 1, 2, 3, 4, 5, 6, 7, 8, 9, 10, 11, 12, 13, 14, 15, 16, 17, 18, 19, 20, 21, 22, 23] n K
theorem litK_eq (n : Nat) (K : Nat → Prop) : litK n K = K n := by
  have h : ∀ (l : List Nat), pickN l n K = K n := by
    intro l
    induction l with
    | nil => rfl
    | cons c l ih =>
      simp only [pickN]
      cases h : Nat.beq c n
      · exact ih
      · rw [Nat.eq_of_beq_eq_true h]
  exact h _

/-- What a type is, as far as the rules ask. -/
def szT (P : Program) (t : TypeId) : Option Nat := (P.info? t).map (·.size)
def isAggT (P : Program) (t : TypeId) : Option Bool := match P.underlying t with | some (.struct _) => some true | some (.array _ _) => some true | some _ => some false | none => none
def zeroT (P : Program) (t : TypeId) : Option V := ((P.info? t).bind (·.zero)).map ofC
/-- The variable's value, out of the cells from its place on. -/
def ldV (P : Program) (t : TypeId) (cs : List V) : Option V :=
  match isAggT P t, szT P t with
  | some true, some n => match Nat.ble n cs.length with | true => some (.agg (cs.take n)) | false => none
  | some false, _ => cs.head?
  | _, _ => none
def splice (cs : List V) (off : Nat) (new : List V) : List V := cs.take off ++ new ++ cs.drop (off + new.length)

def bitsI (op : BinOp) (k : IntKind) (x y : Int) : Option Int :=
  match op with
  | .and => some (k.wrap (BitVec.ofInt k.bits x &&& BitVec.ofInt k.bits y).toNat)
  | .or => some (k.wrap (BitVec.ofInt k.bits x ||| BitVec.ofInt k.bits y).toNat)
  | .xor => some (k.wrap (BitVec.ofInt k.bits x ^^^ BitVec.ofInt k.bits y).toNat)
  | .andNot => some (k.wrap (BitVec.ofInt k.bits x &&& ~~~BitVec.ofInt k.bits y).toNat)
  | _ => none
def cmpI (op : BinOp) (x y : Int) : Option Bool :=
  match op with
  | .eql => some (decide (x = y))
  | .neq => some (!decide (x = y))
  | .lss => some (decide (x < y))
  | .leq => some (decide (x ≤ y))
  | .gtr => some (decide (x > y))
  | .geq => some (decide (x ≥ y))
  | _ => none
def cmpS (op : BinOp) (x y : ByteArray) : Option Bool :=
  match op with
  | .eql => some (decide (x = y))
  | .neq => some (!decide (x = y))
  | .lss => some (Op.bytesLess x.toList y.toList)
  | .leq => some (Op.bytesLess x.toList y.toList || decide (x = y))
  | .gtr => some (!(Op.bytesLess x.toList y.toList || decide (x = y)))
  | .geq => some (!Op.bytesLess x.toList y.toList)
  | _ => none
/-- Equality of leaves, and of structs whose fields are leaves. -/
def eqLeaf (P : Program) (t : TypeId) (u v : V) : Option Bool :=
  match P.underlying t, u, v with
  | some (.int _), .int k a, .int j b => match decide (k = j) with | true => some (decide (a = b)) | false => none
  | some .string, .str a, .str b => some (decide (a = b))
  | some .bool, .bool a, .bool b => some (a == b)
  | _, _, _ => none
def eqFs (P : Program) : Nat → List Field → List V → List V → Option Bool
  | _, [], [], [] => some true
  | i, f :: fs, a :: l, b :: r => match Nat.beq f.offset i, eqLeaf P f.type a b, eqFs P (i + 1) fs l r with | true, some x, some y => some (x && y) | _, _, _ => none
  | _, _, _, _ => none
/-- A value that is surely not nil. -/
def notNil : V → Bool
  | .fn _ _ _ => true
  | .ptr _ _ => true
  | .eptr _ _ _ => true
  | .elem _ => true
  | _ => false
/-- Comparisons with nil. -/
def nilEq (d : TypeDesc) (a b : V) : Option Bool :=
  match d, a, b with
  | .func _ _ _, .nilFn, .nilFn => some true
  | .func _ _ _, .nilFn, .fn _ _ _ => some false
  | .func _ _ _, .fn _ _ _, .nilFn => some false
  | .pointer _, .nilPtr, .nilPtr => some true
  | .interface _, .iface _ _, .nilI => some false
  | .interface _, .nilI, .iface _ _ => some false
  | _, _, _ => none
def flip (op : BinOp) (b : Bool) : Option Bool := match op with | .eql => some b | .neq => some (!b) | _ => none

def binK (P : Program) (op : BinOp) (t : TypeId) (x y : V) (K : V → Prop) : Prop :=
  match x, y with
  | .int k a, .int j b =>
    match op with
    | .shl => Sd (0 ≤ b) ∧ K (.int k (k.wrap (a * 2 ^ (min b.toNat k.bits))))
    | .shr => Sd (0 ≤ b) ∧ K (.int k (a.fdiv (2 ^ (min b.toNat k.bits))))
    | _ => match decide (k = j) with
      | false => False
      | true =>
        match op with
        | .add => K (.int k (k.wrap (a + b)))
        | .sub => K (.int k (k.wrap (a - b)))
        | .mul => K (.int k (k.wrap (a * b)))
        | .quo => Sd (b ≠ 0) ∧ K (.int k (k.wrap (a.tdiv b)))
        | .rem => Sd (b ≠ 0) ∧ K (.int k (a.tmod b))
        | op => match bitsI op k a b with
          | some r => K (.int k r)
          | none => match cmpI op a b with | some c => K (.bool c) | none => False
  | .str a, .str b =>
    match op with
    | .add => Sd (a.size + b.size ≤ 9223372036854775807) ∧ K (.str (a ++ b))
    | op => match cmpS op a b with | some c => K (.bool c) | none => False
  | .bool a, .bool b => match P.underlying t with | some .bool => (match flip op (a == b) with | some c => K (.bool c) | none => False) | _ => False
  | .agg a, .agg b =>
    match P.underlying t with
    | some (.struct fs) => match eqFs P 0 fs.toList a b with
      | some c => match flip op c with | some r => K (.bool r) | none => False
      | none => False
    | _ => False
  | a, b => match P.underlying t with
    | some d => match nilEq d a b with
      | some c => match flip op c with | some r => K (.bool r) | none => False
      | none => False
    | none => False
def unK (op : UnOp) (x : V) (K : V → Prop) : Prop :=
  match op, x with
  | .neg, .int k n => K (.int k (k.wrap (0 - n)))
  | .not, .bool b => K (.bool (!b))
  | _, _ => False

/-- Struct parts put in place. -/
def fillS (P : Program) (fs : Array Field) : List V → List (Nat × V) → Option (List V)
  | cs, [] => some cs
  | cs, (i, v) :: ps =>
    match fs[i]?, cellsV v with
    | some f, some new =>
      match szT P f.type with
      | some n => match Nat.beq new.length n, Nat.ble (f.offset + new.length) cs.length with
        | true, true => fillS P fs (splice cs f.offset new) ps
        | _, _ => none
      | none => none
    | _, _ => none
/-- A row's parts put in place. -/
def fillR (sz : Nat) : List (List V) → List (Nat × V) → Option (List (List V))
  | els, [] => some els
  | els, (i, v) :: ps =>
    match cellsV v with
    | some new => match Nat.beq new.length sz, Nat.blt i els.length with
      | true, true => fillR sz (setAt els i new) ps
      | _, _ => none
    | none => none
/-- An array's parts put in place. -/
def fillA (sz : Nat) : List V → List (Nat × V) → Option (List V)
  | cs, [] => some cs
  | cs, (i, v) :: ps =>
    match cellsV v with
    | some new => match Nat.beq new.length sz, Nat.ble (i * sz + new.length) cs.length with
      | true, true => fillA sz (splice cs (i * sz) new) ps
      | _, _ => none
    | none => none

/-- Bounds of a slice expression, as numbers. -/
def lowK (x : Option V) (K : Int → Prop) : Prop := match x with | none => K 0 | some (.int _ i) => K i | _ => False
def highK (n : Int) (x : Option V) (K : Int → Prop) : Prop := match x with | none => K n | some (.int _ i) => K i | _ => False

/-- the bytes of a row of bytes -/
def byteOf : List V → Option Int
  | [.int .u8 n] => some n
  | _ => none
def bytesV : List (List V) → Option (List Int)
  | [] => some []
  | e :: l => match byteOf e, bytesV l with | some n, some r => some (n :: r) | _, _ => none
theorem bytesV_map {α : Type} (f : α → Int) : ∀ l : List α, bytesV (l.map fun a => [V.int .u8 (f a)]) = some (l.map f)
  | [] => rfl
  | a :: l => by simp only [List.map_cons, bytesV, byteOf, bytesV_map f l]
end Go.Proofs.Ytkkfclpodgagdaa.Ab
