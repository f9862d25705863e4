/- The small reckoner, part 0. -/
import Derived.Calls
import Derived.Orders
import Derived.Below
import Derived.KernelRfl
import Derived.Laws.Sem
import Derived.Laws.World
import Derived.Laws.Cells
import Derived.Laws.AppendOwn
import Derived.Laws.StructEq
import Derived.Laws.Build
import Derived.Laws.Slices
import Derived.MapKept
import Derived.Maps.RangeRun
import Derived.Laws.RangeString
import Derived.Lib.DecodeN
namespace Go.Proofs.YtcbknemdidehlaaGreatDoor.Ab
set_option linter.unusedVariables false
inductive V where
 | undef
 | int (k : IntKind) (n : Int)
 | bool (b : Bool)
 | str (s : ByteArray)
 | nilFn
 | fn (f : FuncId) (first captured : List V)
 | nilPtr
 | ptr (id off : Nat)
 | eptr (id i off : Nat)
 | elem (cs : List V)
 | row (x : Bool) (els : List (List V))
 | sl (id off len : Nat)
 | nilMap
 | map (id : Nat)
 | nilI
 | iface (t : TypeId) (v : V)
 | agg (cs : List V)
 | tup (vs : List V)
inductive O where
 | gone
 | box (w : Bool) (cs : List V)
 | arr (w : Bool) (sz : Nat) (els : List (List V))
 | map (ck : Nat) (es : List (Nat × V × V))
 | it (mid since last : Nat) (seen : List Nat)
 | raw (x : Obj)
abbrev Env := List (Nat × V)
def Env.get : Env → Nat → V
 | [], _ => .undef
 | (k, v) :: e, n => match Nat.beq k n with | true => v | false => Env.get e n
def Env.set : Env → Nat → V → Env
 | [], n, v => [(n, v)]
 | (k, u) :: e, n, v => match Nat.beq k n with | true => (k, v) :: e | false => (k, u) :: Env.set e n v
def Env.put (e : Env) (d : Option Tmp) (v : V) : Env := match d with | some t => e.set t v | none => e
def Env.keep (e : Env) (ks : List Nat) : Env := ks.map fun n => (n, e.get n)
def at? {α : Type} : List α → Nat → Option α
 | [], _ => none
 | a :: _, 0 => some a
 | _ :: l, n + 1 => at? l n
def leaf : Value → V
 | .int k n => .int k n
 | .bool b => .bool b
 | .string s => .str s
 | .nilFunc => .nilFn
 | .pointer none => .nilPtr
 | .slice none 0 0 => .row true []
 | .map none => .nilMap
 | .nilIface => .nilI
 | _ => .undef
def ofC : Value → V
 | .agg cs => .agg (cs.toList.map leaf)
 | .tuple cs => .tup (cs.toList.map leaf)
 | v => leaf v
def leafOk : Value → Bool
 | .int k n => k.wrap n == n
 | .string s => Nat.ble s.size 9223372036854775807
 | _ => true
def cOk : Value → Bool
 | .agg cs => cs.toList.all leafOk
 | .tuple cs => cs.toList.all leafOk
 | v => leafOk v
def ev (e : Env) : Operand → V
 | .tmp t => e.get t
 | .const v => ofC v
 | .global _ => .undef
 | .func f => .fn f [] []
def frz : Nat → List O → V → V
 | 0, _, _ => .undef
 | n + 1, s, .ptr id off => match at? s id with | some (.box _ cs) => .elem ((cs.drop off).map (frz n s)) | _ => .undef
 | n + 1, s, .eptr id i off => match at? s id with | some (.arr _ _ els) => .elem (((at? els i).getD []).drop off) | _ => .undef
 | n + 1, s, .sl id off len => match at? s id with | some (.arr _ _ els) => .row false ((els.drop off).take len) | _ => .undef
 | _ + 1, _, .map _ => .undef
 | _ + 1, _, .row _ els => .row false els
 | n + 1, s, .fn f a b => .fn f (a.map (frz n s)) (b.map (frz n s))
 | n + 1, s, .iface t v => .iface t (frz n s v)
 | n + 1, s, .agg cs => .agg (cs.map (frz n s))
 | n + 1, s, .tup cs => .tup (cs.map (frz n s))
 | _ + 1, _, v => v
def idl : Nat → List O → V → List Nat
 | 0, _, _ => []
 | n + 1, s, .ptr id off => id :: (match at? s id with | some (.box _ cs) => (cs.drop off).flatMap (idl n s) | _ => [])
 | _ + 1, _, .eptr id _ _ => [id]
 | _ + 1, _, .sl id _ _ => [id]
 | n + 1, s, .fn _ a b => a.flatMap (idl n s) ++ b.flatMap (idl n s)
 | n + 1, s, .iface _ v => idl n s v
 | n + 1, s, .agg cs => cs.flatMap (idl n s)
 | n + 1, s, .tup cs => cs.flatMap (idl n s)
 | _ + 1, _, _ => []
def O.ro : O → O
 | .box _ cs => .box false cs
 | .arr _ z els => .arr false z els
 | o => o
def setAt {α : Type} : List α → Nat → α → List α
 | [], _, _ => []
 | _ :: l, 0, x => x :: l
 | a :: l, n + 1, x => a :: setAt l n x
def mark (s : List O) : List Nat → List O
 | [] => s
 | i :: is => mark (match at? s i with | some o => setAt s i o.ro | none => s) is
def pos? : List Nat → Nat → Option Nat
 | [], _ => none
 | a :: l, i => match Nat.beq a i with | true => some 0 | false => (pos? l i).map (· + 1)
def ren : Nat → List Nat → V → V
 | 0, _, _ => .undef
 | _ + 1, g, .ptr id off => match pos? g id with | some j => .ptr j off | none => .undef
 | _ + 1, g, .eptr id i off => match pos? g id with | some j => .eptr j i off | none => .undef
 | _ + 1, g, .sl id off len => match pos? g id with | some j => .sl j off len | none => .undef
 | _ + 1, g, .map id => match pos? g id with | some j => .map j | none => .undef
 | n + 1, g, .fn f a b => .fn f (a.map (ren n g)) (b.map (ren n g))
 | n + 1, g, .iface t v => .iface t (ren n g v)
 | n + 1, g, .agg cs => .agg (cs.map (ren n g))
 | n + 1, g, .tup cs => .tup (cs.map (ren n g))
 | _ + 1, _, v => v
def O.ren (g : List Nat) : O → O
 | .box w cs => .box w (cs.map (Ab.ren 8 g))
 | .map ck es => .map ck (es.map fun x => (x.1, Ab.ren 8 g x.2.1, Ab.ren 8 g x.2.2))
 | .it mid a b c => match pos? g mid with | some j => .it j a b c | none => .gone
 | o => o
def selO (s : List O) (g : List Nat) : List O := g.map fun i => ((at? s i).getD .gone).ren g
def nd : List Nat → Bool
 | [] => true
 | a :: l => (match pos? l a with | none => true | some _ => false) && nd l
def leafV : V → Bool
 | .undef => false
 | .agg _ => false
 | .tup _ => false
 | _ => true
def cellsV : V → Option (List V)
 | .undef => none
 | .agg cs => some cs
 | .tup _ => none
 | v => some [v]
def csplit (b : Bool) (A B : Prop) : Prop := match b with | true => A | false => B
theorem csp {b : Bool} {A B : Prop} (ha : b = true → A) (hb : b = false → B) : csplit b A B := by cases b; exact hb rfl; exact ha rfl
theorem csp_t {b : Bool} {A B : Prop} (h : b = true) (ha : A) : csplit b A B := by subst h; exact ha
theorem csp_f {b : Bool} {A B : Prop} (h : b = false) (hb : B) : csplit b A B := by subst h; exact hb
structure Sd (p : Prop) : Prop where
 out : p
def fL {α : Type} (f : α → (α → Prop) → Prop) : List α → (List α → Prop) → Prop
 | [], K => K []
 | a :: l, K => f a fun a => fL f l fun l => K (a :: l)
def fV : Nat → V → (V → Prop) → Prop
 | 0, v, K => K v
 | _ + 1, .undef, K => K .undef
 | _ + 1, .int k n, K => K (.int k n)
 | _ + 1, .bool b, K => K (.bool b)
 | _ + 1, .str s, K => K (.str s)
 | _ + 1, .nilFn, K => K .nilFn
 | n + 1, .fn f a b, K => fL (fV n) a fun a => fL (fV n) b fun b => K (.fn f a b)
 | _ + 1, .nilPtr, K => K .nilPtr
 | _ + 1, .ptr i o, K => K (.ptr i o)
 | _ + 1, .eptr i j o, K => K (.eptr i j o)
 | n + 1, .elem cs, K => fL (fV n) cs fun cs => K (.elem cs)
 | _ + 1, .row x els, K => K (.row x els)
 | _ + 1, .sl i o l, K => K (.sl i o l)
 | _ + 1, .nilMap, K => K .nilMap
 | _ + 1, .map i, K => K (.map i)
 | _ + 1, .nilI, K => K .nilI
 | n + 1, .iface t v, K => fV n v fun v => K (.iface t v)
 | n + 1, .agg cs, K => fL (fV n) cs fun cs => K (.agg cs)
 | n + 1, .tup cs, K => fL (fV n) cs fun cs => K (.tup cs)
def fO (o : O) (K : O → Prop) : Prop :=
 match o with
 | .gone => K .gone
 | .box w cs => fL (fV 4) cs fun cs => K (.box w cs)
 | .arr w z els => K (.arr w z els)
 | .map w es => K (.map w es)
 | .it m a b c => K (.it m a b c)
 | .raw x => K (.raw x)
theorem fL_eq {α : Type} {f : α → (α → Prop) → Prop} (hf : ∀ a K, f a K = K a) : ∀ (l : List α) (K : List α → Prop), fL f l K = K l
 | [], _ => rfl
 | a :: l, K => by simp only [fL, hf, fL_eq hf l]
theorem fV_eq : ∀ (n : Nat) (v : V) (K : V → Prop), fV n v K = K v
 | 0, _, _ => rfl
 | n + 1, v, K => by cases v <;> simp only [fV, fL_eq (fV_eq n), fV_eq n]
theorem fO_eq (o : O) (K : O → Prop) : fO o K = K o := by cases o <;> simp only [fO, fL_eq (fV_eq 4)]
def setK : Env → Nat → V → (Env → Prop) → Prop
 | [], n, v, K => K [(n, v)]
 | (k, u) :: e, n, v, K => match Nat.beq k n with | true => K ((k, v) :: e) | false => setK e n v fun e => K ((k, u) :: e)
def putK (e : Env) (d : Option Tmp) (v : V) (K : Env → Prop) : Prop := match d with | some t => setK e t v K | none => K e
def keepK (f : V → V) (e : Env) : List Nat → (Env → Prop) → Prop
 | [], K => K []
 | n :: ns, K => fV 4 (f (e.get n)) fun v => keepK f e ns fun r => K ((n, v) :: r)
theorem setK_eq : ∀ (e : Env) (n : Nat) (v : V) (K : Env → Prop), setK e n v K = K (e.set n v)
 | [], _, _, _ => rfl
 | (k, u) :: e, n, v, K => by
  simp only [setK, Env.set]
  cases h : Nat.beq k n
  ·exact setK_eq e n v _
  ·rfl
theorem putK_eq (e : Env) (d : Option Tmp) (v : V) (K : Env → Prop) : putK e d v K = K (e.put d v) := by
 cases d
 ·rfl
 ·exact setK_eq _ _ _ _
theorem keepK_eq (f : V → V) (e : Env) : ∀ (ns : List Nat) (K : Env → Prop), keepK f e ns K = K (ns.map fun n => (n, f (e.get n)))
 | [], _ => rfl
 | n :: ns, K => by simp only [keepK, fV_eq, keepK_eq f e ns, List.map_cons]
def setB (e : Env) (x : Operand) (b : Bool) (K : Env → Prop) : Prop := match x with | .tmp t => setK e t (.bool b) K | _ => K e
def pickN : List Nat → Nat → (Nat → Prop) → Prop
 | [], n, K => K n
 | c :: cs, n, K => match Nat.beq c n, K with | true, K => K c | false, K => pickN cs n K
def litK (n : Nat) (K : Nat → Prop) : Prop := pickN [0, 1, 2, 3, 4, 5, 6, 7, 8, 9, 10, 11, 12, 13, 14, 15, 16, 17, 18, 19, 20, 21, 22, 23, 24, 25, 26, 27, 28, 29, 30, 31, 32, 33, 34, 35, 36, 37, 38, 39] n K
theorem litK_eq (n : Nat) (K : Nat → Prop) : litK n K = K n := by
 have h : ∀ (l : List Nat), pickN l n K = K n := by
  intro l
  induction l with
  | nil => rfl
  | cons c l ih =>
   simp only [pickN]
   cases h : Nat.beq c n
   ·exact ih
   ·rw [Nat.eq_of_beq_eq_true h]
 exact h _
def fW : Nat → V → (V → Prop) → Prop
 | 0, v, K => K v
 | _ + 1, .ptr i o, K => litK i fun i => litK o fun o => K (.ptr i o)
 | _ + 1, .eptr i j o, K => litK i fun i => K (.eptr i j o)
 | _ + 1, .sl i o l, K => litK i fun i => litK o fun o => K (.sl i o l)
 | _ + 1, .map i, K => litK i fun i => K (.map i)
 | n + 1, .fn f a b, K => fL (fW n) a fun a => fL (fW n) b fun b => K (.fn f a b)
 | n + 1, .elem cs, K => fL (fW n) cs fun cs => K (.elem cs)
 | n + 1, .iface t v, K => fW n v fun v => K (.iface t v)
 | n + 1, .agg cs, K => fL (fW n) cs fun cs => K (.agg cs)
 | n + 1, .tup cs, K => fL (fW n) cs fun cs => K (.tup cs)
 | n + 1, v, K => fV (n + 1) v K
theorem fW_eq : ∀ (n : Nat) (v : V) (K : V → Prop), fW n v K = K v
 | 0, _, _ => rfl
 | n + 1, v, K => by cases v <;> simp only [fW, fL_eq (fW_eq n), fW_eq n, litK_eq, fV_eq]
def fOm (o : O) (K : O → Prop) : Prop :=
 match o with
 | .box w cs => fL (fW 4) cs fun cs => K (.box w cs)
 | .map ck es => litK ck fun ck => fL (fun x K => litK x.1 fun i => fW 4 x.2.1 fun k => fW 4 x.2.2 fun v => K (i, k, v)) es fun es => K (.map ck es)
 | .it m a b c => litK m fun m => K (.it m a b c)
 | o => fO o K
theorem fOm_eq (o : O) (K : O → Prop) : fOm o K = K o := by
 unfold fOm
 split
 ·rw [fL_eq (fW_eq 4)]
 ·rw [litK_eq, fL_eq]
  intro x K
  simp only [fW_eq, litK_eq]
 ·rw [litK_eq]
 ·exact fO_eq _ _
def fR (len : Nat) (els : List (List V)) (K : List (List V) → Prop) : Prop := match Nat.ble len 16 with | true => fL (fL (fV 4)) els K | false => K els
theorem fR_eq (len : Nat) (els : List (List V)) (K : List (List V) → Prop) : fR len els K = K els := by
 unfold fR
 split
 ·exact fL_eq (fun a K => fL_eq (fV_eq 4) a K) els K
 ·rfl
def szT (P : Program) (t : TypeId) : Option Nat := (P.info? t).map (·.size)
def isAggT (P : Program) (t : TypeId) : Option Bool := match P.underlying t with | some (.struct _) => some true | some (.array _ _) => some true | some _ => some false | none => none
def zeroT (P : Program) (t : TypeId) : Option V := ((P.info? t).bind (·.zero)).map ofC
def ldV (P : Program) (t : TypeId) (cs : List V) : Option V :=
 match isAggT P t, szT P t with
 | some true, some n => match Nat.ble n cs.length with | true => some (.agg (cs.take n)) | false => none
 | some false, _ => cs.head?
 | _, _ => none
def splice (cs : List V) (off : Nat) (new : List V) : List V := cs.take off ++ new ++ cs.drop (off + new.length)
def bitsI (op : BinOp) (k : IntKind) (x y : Int) : Option Int :=
 match op with
 | .and => some (k.wrap (BitVec.ofInt k.bits x &&& BitVec.ofInt k.bits y).toNat)
 | .or => some (k.wrap (BitVec.ofInt k.bits x ||| BitVec.ofInt k.bits y).toNat)
 | .xor => some (k.wrap (BitVec.ofInt k.bits x ^^^ BitVec.ofInt k.bits y).toNat)
 | .andNot => some (k.wrap (BitVec.ofInt k.bits x &&& ~~~BitVec.ofInt k.bits y).toNat)
 | _ => none
def cmpI (op : BinOp) (x y : Int) : Option Bool :=
 match op with
 | .eql => some (decide (x = y))
 | .neq => some (!decide (x = y))
 | .lss => some (decide (x < y))
 | .leq => some (decide (x ≤ y))
 | .gtr => some (decide (x > y))
 | .geq => some (decide (x ≥ y))
 | _ => none
def cmpS (op : BinOp) (x y : ByteArray) : Option Bool :=
 match op with
 | .eql => some (decide (x = y))
 | .neq => some (!decide (x = y))
 | .lss => some (Op.bytesLess x.toList y.toList)
 | .leq => some (Op.bytesLess x.toList y.toList || decide (x = y))
 | .gtr => some (!(Op.bytesLess x.toList y.toList || decide (x = y)))
 | .geq => some (!Op.bytesLess x.toList y.toList)
 | _ => none
def eqLeaf (P : Program) (t : TypeId) (u v : V) : Option Bool :=
 match P.underlying t, u, v with
 | some (.int _), .int k a, .int j b => match decide (k = j) with | true => some (decide (a = b)) | false => none
 | some .string, .str a, .str b => some (decide (a = b))
 | some .bool, .bool a, .bool b => some (a == b)
 | _, _, _ => none
def eqFs (P : Program) : Nat → List Field → List V → List V → Option Bool
 | _, [], [], [] => some true
 | i, f :: fs, a :: l, b :: r => match Nat.beq f.offset i, eqLeaf P f.type a b, eqFs P (i + 1) fs l r with | true, some x, some y => some (x && y) | _, _, _ => none
 | _, _, _, _ => none
def eqKey (P : Program) (t : TypeId) (u v : V) : Option Bool :=
 match u, v with
 | .agg a, .agg b => match P.underlying t with | some (.struct fs) => eqFs P 0 fs.toList a b | _ => none
 | u, v => eqLeaf P t u v
def notNil : V → Bool
 | .fn _ _ _ => true
 | .ptr _ _ => true
 | .eptr _ _ _ => true
 | .elem _ => true
 | _ => false
def nilEq (d : TypeDesc) (a b : V) : Option Bool :=
 match d, a, b with
 | .func _ _ _, .nilFn, .nilFn => some true
 | .func _ _ _, .nilFn, .fn _ _ _ => some false
 | .func _ _ _, .fn _ _ _, .nilFn => some false
 | .pointer _, .nilPtr, .nilPtr => some true
 | .pointer _, .ptr _ _, .nilPtr => some false
 | .pointer _, .elem _, .nilPtr => some false
 | .map _ _, .nilMap, .nilMap => some true
 | .map _ _, .map _, .nilMap => some false
 | .interface _, .iface _ _, .nilI => some false
 | .interface _, .nilI, .iface _ _ => some false
 | _, _, _ => none
def flip (op : BinOp) (b : Bool) : Option Bool := match op with | .eql => some b | .neq => some (!b) | _ => none
def binK (P : Program) (op : BinOp) (t : TypeId) (x y : V) (K : V → Prop) : Prop :=
 match x, y with
 | .int k a, .int j b =>
  match op with
  | .shl => Sd (0 ≤ b) ∧ K (.int k (k.wrap (a * 2 ^ (min b.toNat k.bits))))
  | .shr => Sd (0 ≤ b) ∧ K (.int k (a.fdiv (2 ^ (min b.toNat k.bits))))
  | _ => match decide (k = j) with
   | false => False
   | true =>
    match op with
    | .add => K (.int k (k.wrap (a + b)))
    | .sub => K (.int k (k.wrap (a - b)))
    | .mul => K (.int k (k.wrap (a * b)))
    | .quo => Sd (b ≠ 0) ∧ K (.int k (k.wrap (a.tdiv b)))
    | .rem => Sd (b ≠ 0) ∧ K (.int k (a.tmod b))
    | op => match bitsI op k a b with
     | some r => K (.int k r)
     | none => match cmpI op a b with | some c => K (.bool c) | none => False
 | .str a, .str b =>
  match op with
  | .add => Sd (a.size + b.size ≤ 9223372036854775807) ∧ K (.str (a ++ b))
  | op => match cmpS op a b with | some c => K (.bool c) | none => False
 | .bool a, .bool b => match P.underlying t with | some .bool => (match flip op (a == b) with | some c => K (.bool c) | none => False) | _ => False
 | .agg a, .agg b =>
  match P.underlying t with
  | some (.struct fs) => match eqFs P 0 fs.toList a b with
   | some c => match flip op c with | some r => K (.bool r) | none => False
   | none => False
  | _ => False
 | a, b => match P.underlying t with
  | some d => match nilEq d a b with
   | some c => match flip op c with | some r => K (.bool r) | none => False
   | none => False
  | none => False
def unK (op : UnOp) (x : V) (K : V → Prop) : Prop :=
 match op, x with
 | .neg, .int k n => K (.int k (k.wrap (0 - n)))
 | .not, .bool b => K (.bool (!b))
 | _, _ => False
def leafKey (P : Program) (t : TypeId) (k : V) : Bool :=
 match P.underlying t, k with
 | some (.int k), .int j _ => decide (j = k)
 | some .string, .str _ => true
 | some .bool, .bool _ => true
 | _, _ => false
def keyFs (P : Program) : Nat → List Field → List V → Bool
 | _, [], [] => true
 | i, f :: fs, a :: l => Nat.beq f.offset i && leafKey P f.type a && keyFs P (i + 1) fs l
 | _, _, _ => false
def keyOk (P : Program) (t : TypeId) (k : V) : Bool :=
 match k with
 | .agg cs => match P.underlying t with | some (.struct fs) => keyFs P 0 fs.toList cs | _ => false
 | k => leafKey P t k
def keyN (P : Program) (t : TypeId) : Bool := match P.underlying t with | some (.struct fs) => fs.toList.all (fun f => f.name != "_") && !P.stoodInHeld t | _ => true
def keyT (P : Program) (t : TypeId) : Bool := match P.underlying t with | some (.map kt _) => keyN P kt | _ => true
def findK (P : Program) (t : TypeId) (k : V) : List (Nat × V × V) → Nat → (Option (Nat × Nat × V × V) → Prop) → Prop
 | [], _, K => K none
 | x :: l, i, K => match eqKey P t k x.2.1 with | some b => csplit b (K (some (i, x))) (findK P t k l (i + 1) K) | none => False
theorem findK_mono {P : Program} {t : TypeId} {k : V} {A B : Option (Nat × Nat × V × V) → Prop} (hab : ∀ r, A r → B r) : ∀ (l : List (Nat × V × V)) (i : Nat), findK P t k l i A → findK P t k l i B
 | [], _, h => hab _ h
 | x :: l, i, h => by
  simp only [findK] at h ⊢
  split at h
  ·rename_i b hb
   cases b
   ·exact findK_mono hab l (i + 1) h
   ·exact hab _ h
  ·exact h.elim
theorem findK_self {P : Program} {t : TypeId} {k : V} {A : Option (Nat × Nat × V × V) → Prop} : ∀ (l : List (Nat × V × V)) (i : Nat), findK P t k l i A → findK P t k l i fun r => A r ∧ findK P t k l i fun q => q = r
 | [], _, h => ⟨h, rfl⟩
 | x :: l, i, h => by
  unfold findK at h ⊢
  split at h
  ·rename_i b hb
   cases b
   ·refine findK_mono (fun r hr => ⟨hr.1, ?_⟩) _ _ (findK_self l (i + 1) h)
    unfold findK
    rw [hb]
    exact hr.2
   ·refine ⟨h, ?_⟩
    unfold findK
    rw [hb]
    exact rfl
  ·exact h.elim
theorem findK_det {P : Program} {t : TypeId} {k : V} {A : Option (Nat × Nat × V × V) → Prop} : ∀ (l : List (Nat × V × V)) (i : Nat), findK P t k l i A → ∃ r, A r ∧ (∀ B, findK P t k l i B ↔ B r) ∧ ∀ l' B, findK P t k (l ++ l') i B ↔ match r with | some _ => B r | none => findK P t k l' (i + l.length) B
 | [], i, h => ⟨none, h, fun B => Iff.rfl, fun l' B => Iff.rfl⟩
 | x :: l, i, h => by
  cases hb : eqKey P t k x.2.1 with
  | none => simp [findK, hb] at h
  | some b =>
   cases b
   ·obtain ⟨r, h1, h2, h3⟩ := findK_det (A := A) l (i + 1) (by simpa [findK, hb, csplit] using h)
    refine ⟨r, h1, fun B => by simpa [findK, hb, csplit] using h2 B, fun l' B => ?_⟩
    rw [List.length_cons, show i + (l.length + 1) = i + 1 + l.length by omega, ← h3 l' B]
    simp [findK, hb, csplit]
   ·exact ⟨some (i, x), by simpa [findK, hb, csplit] using h, fun B => by simp [findK, hb, csplit], fun l' B => by simp [findK, hb, csplit]⟩
theorem leafKey_self {P : Program} {t : TypeId} {k : V} (h : leafKey P t k = true) : eqLeaf P t k k = some true := by
 unfold leafKey at h
 split at h
 ·rename_i h1; simp [eqLeaf, h1]
 ·rename_i h1; simp [eqLeaf, h1]
 ·rename_i h1; simp [eqLeaf, h1]
 ·cases h
theorem keyFs_self {P : Program} : ∀ (i : Nat) (fs : List Field) (l : List V), keyFs P i fs l = true → eqFs P i fs l l = some true
 | _, [], [], _ => rfl
 | i, f :: fs, a :: l, h => by
  simp only [keyFs, Bool.and_eq_true] at h
  simp only [eqFs, h.1.1, leafKey_self h.1.2, keyFs_self (i + 1) fs l h.2, Bool.and_self]
 | _, [], _ :: _, h => by simp [keyFs] at h
 | _, _ :: _, [], h => by simp [keyFs] at h
theorem keyOk_self {P : Program} {t : TypeId} {k : V} (h : keyOk P t k = true) : eqKey P t k k = some true := by
 unfold keyOk at h
 split at h
 ·split at h
  ·rename_i h1; simp only [eqKey, h1]; exact keyFs_self _ _ _ h
  ·cases h
 ·rename_i hn
  cases k <;> first | exact leafKey_self h | exact absurd rfl (hn _)
def updB (b : Nat) (v : V) : List (Nat × V × V) → List (Nat × V × V)
 | [] => []
 | y :: l => match Nat.beq y.1 b with | true => (y.1, y.2.1, v) :: l | false => y :: updB b v l
def leftM (es : List (Nat × V × V)) (seen : List Nat) : List (Nat × V × V) := es.filter fun x => !seen.contains x.1
def findB (b : Nat) : List (Nat × V × V) → Option (Nat × V × V)
 | [] => none
 | x :: l => match Nat.beq x.1 b with | true => some x | false => findB b l
def two (ok : Bool) (v : V) (b : Bool) : V := match ok with | true => .tup [v, .bool b] | false => v
def fillS (P : Program) (fs : Array Field) : List V → List (Nat × V) → Option (List V)
 | cs, [] => some cs
 | cs, (i, v) :: ps =>
  match fs[i]?, cellsV v with
  | some f, some new =>
   match szT P f.type with
   | some n => match Nat.beq new.length n, Nat.ble (f.offset + new.length) cs.length with
    | true, true => fillS P fs (splice cs f.offset new) ps
    | _, _ => none
   | none => none
  | _, _ => none
def fillR (sz : Nat) : List (List V) → List (Nat × V) → Option (List (List V))
 | els, [] => some els
 | els, (i, v) :: ps =>
  match cellsV v with
  | some new => match Nat.beq new.length sz, Nat.blt i els.length with
   | true, true => fillR sz (setAt els i new) ps
   | _, _ => none
  | none => none
def fillA (sz : Nat) : List V → List (Nat × V) → Option (List V)
 | cs, [] => some cs
 | cs, (i, v) :: ps =>
  match cellsV v with
  | some new => match Nat.beq new.length sz, Nat.ble (i * sz + new.length) cs.length with
   | true, true => fillA sz (splice cs (i * sz) new) ps
   | _, _ => none
  | none => none
def lowK (x : Option V) (K : Int → Prop) : Prop := match x with | none => K 0 | some (.int _ i) => K i | _ => False
def highK (n : Int) (x : Option V) (K : Int → Prop) : Prop := match x with | none => K n | some (.int _ i) => K i | _ => False
def byteOf : List V → Option Int
 | [.int .u8 n] => some n
 | _ => none
def bytesV : List (List V) → Option (List Int)
 | [] => some []
 | e :: l => match byteOf e, bytesV l with | some n, some r => some (n :: r) | _, _ => none
theorem bytesV_map {α : Type} (f : α → Int) : ∀ l : List α, bytesV (l.map fun a => [V.int .u8 (f a)]) = some (l.map f)
 | [] => rfl
 | a :: l => by simp only [List.map_cons, bytesV, byteOf, bytesV_map f l]
def fzV : Nat → List O → V → V
 | n + 1, s, .sl id off len => match at? s id with | some (.arr _ _ els) => .row false ((els.drop off).take len) | _ => .undef
 | n + 1, s, .agg cs => .agg (cs.map (fzV n s))
 | n + 1, s, .tup cs => .tup (cs.map (fzV n s))
 | n + 1, s, .iface t v => .iface t (fzV n s v)
 | _, _, v => v
def fzO (s : List O) : O → O
 | .box w cs => .box w (cs.map (fzV 4 s))
 | o => o
def arrIds : List O → Nat → List Nat
 | [], _ => []
 | .arr _ _ _ :: l, i => i :: arrIds l (i + 1)
 | _ :: l, i => arrIds l (i + 1)
def fzS (s : List O) : List O := (mark s (arrIds s 0)).map (fzO s)
end Go.Proofs.YtcbknemdidehlaaGreatDoor.Ab
namespace Go.Proofs.YtcbknemdidehlaaGreatDoor.Ab
set_option linter.unusedVariables false
abbrev Mem := Nat → Nat → Option Value
def Mem.le (m m' : Mem) : Prop := ∀ b o v, m b o = some v → m' b o = some v
def Mem.ok (m : Mem) (w : World) : Prop := ∀ b o v, m b o = some v → w.cell? ⟨b, o, none⟩ = some v
def gvars : List Nat := [0]
def Gk (m : Mem) : Prop := ∀ g ∈ gvars, ∃ n : Int, m g 0 = some (.int .i64 n)
theorem Gk.mono {m m' : Mem} (h : Gk m) (hm : m.le m') : Gk m' := fun g hg => let ⟨n, hn⟩ := h g hg; ⟨n, hm _ _ _ hn⟩
structure Blk where
 blk : Nat
 cap : Nat
 sz : Nat
 n : Nat
inductive Rep (m : Mem) : List Blk → V → Value → Prop
 | undef (ι : List Blk) (v : Value) : Rep m ι .undef v
 | int (ι : List Blk) (k : IntKind) (n : Int) (h : k.wrap n = n) : Rep m ι (.int k n) (.int k n)
 | bool (ι : List Blk) (b : Bool) : Rep m ι (.bool b) (.bool b)
 | str (ι : List Blk) (s : ByteArray) (h : s.size ≤ 9223372036854775807) : Rep m ι (.str s) (.string s)
 | nilFn (ι : List Blk) : Rep m ι .nilFn .nilFunc
 | nilPtr (ι : List Blk) : Rep m ι .nilPtr (.pointer none)
 | nilMap (ι : List Blk) : Rep m ι .nilMap (.map none)
 | nilI (ι : List Blk) : Rep m ι .nilI .nilIface
 | fn (ι : List Blk) (f : FuncId) (a b : List V) (va vb : List Value) (ha : a.length = va.length) (hb : b.length = vb.length)
   (ra : ∀ (i : Nat) (x : V) (y : Value), a[i]? = some x → va[i]? = some y → Rep m ι x y) (rb : ∀ (i : Nat) (x : V) (y : Value), b[i]? = some x → vb[i]? = some y → Rep m ι x y) :
   Rep m ι (.fn f a b) (.func (.func f) va.toArray vb.toArray)
 | iface (ι : List Blk) (t : TypeId) (v : V) (x : Value) (h : Rep m ι v x) : Rep m ι (.iface t v) (.iface t x)
 | ptr (ι : List Blk) (id off : Nat) (β : Blk) (h : ι[id]? = some β) : Rep m ι (.ptr id off) (.pointer (some ⟨β.blk, off, none⟩))
 | eptr (ι : List Blk) (id i off : Nat) (β : Blk) (h : ι[id]? = some β) : Rep m ι (.eptr id i off) (.pointer (some ⟨β.blk, i * β.sz + off, none⟩))
 | elem (ι : List Blk) (cs : List V) (b o : Nat) (g : Nat → Value) (hm : ∀ (j : Nat) (c : V), cs[j]? = some c → m b (o + j) = some (g j)) (hr : ∀ (j : Nat) (c : V), cs[j]? = some c → Rep m [] c (g j)) :
   Rep m ι (.elem cs) (.pointer (some ⟨b, o, none⟩))
 | row (ι : List Blk) (x : Bool) (els : List (List V)) (a : Option Addr) (cap sz b o : Nat) (g : Nat → Nat → Value)
   (hx : x = true → cap = els.length) (hc : els.length ≤ cap) (hl : els.length ≤ 9223372036854775807) (hs : ∀ e ∈ els, e.length = sz) (ha : els ≠ [] → a = some ⟨b, o, none⟩)
   (hm : ∀ (i j : Nat) (e : List V) (c : V), els[i]? = some e → e[j]? = some c → m b (o + i * sz + j) = some (g i j)) (hr : ∀ (i j : Nat) (e : List V) (c : V), els[i]? = some e → e[j]? = some c → Rep m [] c (g i j)) :
   Rep m ι (.row x els) (.slice a els.length cap)
 | sl (ι : List Blk) (id off len : Nat) (a : Option Addr) (cap : Nat) (β : Blk) (h : ι[id]? = some β) (hl : len ≤ cap) (hc : off + cap ≤ β.cap) (hn : off + len ≤ β.n) (hb : len ≤ 9223372036854775807)
   (ha : cap ≠ 0 → a = some ⟨β.blk, off * β.sz, none⟩) : Rep m ι (.sl id off len) (.slice a len cap)
 | map (ι : List Blk) (id : Nat) (β : Blk) (h : ι[id]? = some β) : Rep m ι (.map id) (.map (some β.blk))
 | agg (ι : List Blk) (cs : List V) (vs : List Value) (hl : cs.length = vs.length) (hr : ∀ (i : Nat) (x : V) (y : Value), cs[i]? = some x → vs[i]? = some y → Rep m ι x y) : Rep m ι (.agg cs) (.agg vs.toArray)
 | tup (ι : List Blk) (cs : List V) (vs : List Value) (hl : cs.length = vs.length) (hr : ∀ (i : Nat) (x : V) (y : Value), cs[i]? = some x → vs[i]? = some y → Rep m ι x y) : Rep m ι (.tup cs) (.tuple vs.toArray)
def RepL (m : Mem) (ι : List Blk) (cs : List V) (vs : List Value) : Prop := cs.length = vs.length ∧ ∀ (i : Nat) (x : V) (y : Value), cs[i]? = some x → vs[i]? = some y → Rep m ι x y
def CallsX (P : Program) (f : FuncId) (args : Array Value) (w : World) (R : Value → World → Prop) : Prop :=
 match (callFunc f args).run P w with
 | .ok (.enter g as) w1 => Calls P g as w1 fun e w' => ∃ v, e = .returned v ∧ R v w'
 | .ok (.value v) w1 => R v w1
 | _ => False
def Ret (P : Program) (f : FuncId) (args : List V) (r : V) : Prop :=
 ∀ (m : Mem) (w : World) (vs : List Value), Gk m → m.ok w → RepL m [] args vs →
  CallsX P f vs.toArray w fun v w' => ∃ m' : Mem, m.le m' ∧ m'.ok w' ∧ Rep m' [] r v ∧ RowKit.Below w.heap.size w w' ∧ ∀ b o x, m' b o = some x → m b o = none → w.heap.size ≤ b
def RetE (P : Program) (f : FuncId) (args : List V) (Q : V → Prop) : Prop :=
 ∀ (m : Mem) (w : World) (vs : List Value), Gk m → m.ok w → RepL m [] args vs →
  CallsX P f vs.toArray w fun v w' => ∃ (m' : Mem) (r : V), Q r ∧ m.le m' ∧ m'.ok w' ∧ Rep m' [] r v ∧ RowKit.Below w.heap.size w w' ∧ ∀ b o x, m' b o = some x → m b o = none → w.heap.size ≤ b
def RepM (m : Mem) (ι : List Blk) (es : List (Nat × V × V)) (ms : List MapEntry) : Prop := es.length = ms.length ∧ ∀ (i : Nat) x y, es[i]? = some x → ms[i]? = some y → y.born = x.1 ∧ Rep m ι x.2.1 y.key ∧ Rep m ι x.2.2 y.val
def Ob (m : Mem) (ι : List Blk) (w : World) (β : Blk) : O → Prop
 | .gone => True
 | .box wr cs => ∃ (vs : List Value) (e : TypeId) (fr : Nat × Nat), w.heap[β.blk]? = some (.cells vs.toArray e fr) ∧ RepL m ι cs vs ∧ (∀ i, i < vs.length → ¬ (fr.1 ≤ i ∧ i < fr.2)) ∧ (wr = true → ∀ o, m β.blk o = none)
 | .arr wr sz els => ∃ (vs : List Value) (e : TypeId) (fr : Nat × Nat), sz = β.sz ∧ w.heap[β.blk]? = some (.cells vs.toArray e fr) ∧ vs.length = β.cap * sz ∧ els.length ≤ β.cap ∧ els.length = β.n ∧ els.length ≤ 9223372036854775807 ∧
   (∀ el ∈ els, el.length = sz) ∧ (∀ (i j : Nat) el c, els[i]? = some el → el[j]? = some c → ∃ x, vs[i * sz + j]? = some x ∧ Rep m [] c x) ∧
   (fr.1 ≤ fr.2 ∧ ∀ i, i < vs.length → ¬ (fr.1 ≤ i ∧ i < fr.2)) ∧ (∀ o, els.length * sz ≤ o → m β.blk o = none) ∧ (wr = true → ∀ o, m β.blk o = none)
 | .map ck es => ∃ ms : List MapEntry, w.heap[β.blk]? = some (.map ms.toArray ck) ∧ RepM m ι es ms ∧ es.length ≤ 9223372036854775807
 | .it mid since last seen => ∃ βm : Blk, w.heap[β.blk]? = some (.mapIter (some βm.blk) since seen.reverse.toArray last) ∧ ι[mid]? = some βm ∧ since ≤ last
 | .raw x => w.heap[β.blk]? = some x ∧ ∀ c e f, x ≠ .cells c e f
structure Base where
 w : World
 X : Nat → Prop
 pin : List Blk
structure Base.below (B : Base) (w : World) : Prop where
 os : w.os = B.w.os
 tape : w.tape = B.w.tape
 output : w.output = B.w.output
 size : B.w.heap.size ≤ w.heap.size
 block : ∀ k, k < B.w.heap.size → ¬ B.X k → w.heap[k]? = B.w.heap[k]?
def Base.mine (B : Base) (b : Nat) : Prop := B.w.heap.size ≤ b ∨ B.X b
theorem Base.below.on {B : Base} {w w' : World} (h : B.below w) (k : RowKit.Below w.heap.size w w') : B.below w' :=
 ⟨k.os.trans h.os, k.tape.trans h.tape, k.output.trans h.output, Nat.le_trans h.size k.size, fun i hi hx => (k.block i (Nat.lt_of_lt_of_le hi h.size)).trans (h.block i hi hx)⟩
structure Mo (w0 : Base) (m0 : Mem) (m : Mem) (ι : List Blk) (s : List O) (w : World) : Prop where
 mle : m0.le m
 glo : Gk m
 mok : m.ok w
 fresh : ∀ b o x, m b o = some x → m0 b o = none → w0.mine b
 below : w0.below w
 len : ι.length = s.length
 obj : ∀ (i : Nat) o β, s[i]? = some o → ι[i]? = some β → Ob m ι w β o
 own : ∀ (i : Nat) o β, s[i]? = some o → ι[i]? = some β → o ≠ .gone → w0.mine β.blk ∧ β.blk < w.heap.size
 inj : ∀ (i j : Nat) o p β γ, s[i]? = some o → s[j]? = some p → ι[i]? = some β → ι[j]? = some γ → o ≠ .gone → p ≠ .gone → i ≠ j → β.blk ≠ γ.blk
 pin : ∀ (i : Nat) β, w0.pin[i]? = some β → ι[i]? = some β
def lent (s : List O) (ι : List Blk) (b : Nat) : Prop := ∃ (i : Nat) (o : O) (β : Blk), s[i]? = some o ∧ ι[i]? = some β ∧ o ≠ .gone ∧ β.blk = b
def RetL (P : Program) (f : FuncId) (args : List V) (s : List O) (r : V) (s' : List O) : Prop :=
 ∀ (m : Mem) (w : World) (vs : List Value) (ι : List Blk), Mo ⟨w, lent s ι, ι⟩ m m ι s w → RepL m ι args vs →
  CallsX P f vs.toArray w fun v w' => ∃ (m' : Mem) (ι' : List Blk), Mo ⟨w, lent s ι, ι⟩ m m' ι' s' w' ∧ Rep m' ι' r v
def RetQ (P : Program) (f : FuncId) (args : List V) (s : List O) (Q : V → List O → Prop) : Prop :=
 ∀ (m : Mem) (w : World) (vs : List Value) (ι : List Blk), Mo ⟨w, lent s ι, ι⟩ m m ι s w → RepL m ι args vs →
  CallsX P f vs.toArray w fun v w' => ∃ (m' : Mem) (ι' : List Blk) (r : V) (s' : List O), Q r s' ∧ Mo ⟨w, lent s ι, ι⟩ m m' ι' s' w' ∧ Rep m' ι' r v
def wfV : Nat → V → Prop
 | 0, _ => True
 | _ + 1, .int k n => k.wrap n = n
 | _ + 1, .str s => s.size ≤ 9223372036854775807
 | n + 1, .row _ els => els.length ≤ 9223372036854775807 ∧ ∀ e ∈ els, ∀ c ∈ e, wfV n c
 | n + 1, .elem cs => ∀ c ∈ cs, wfV n c
 | n + 1, .agg cs => ∀ c ∈ cs, wfV n c
 | n + 1, .tup cs => ∀ c ∈ cs, wfV n c
 | _ + 1, _ => True
def wfL (s : List O) : Prop := ∀ (i : Nat) w cs, s[i]? = some (.box w cs) → ∀ c ∈ cs, wfV 8 c
def bnd (b : Nat) : Nat := if b ≤ 1 then b + 1 else b
theorem bnd_le (b : Nat) : b ≤ bnd b := by unfold bnd; split <;> omega
theorem bnd_pos (b : Nat) : 0 < bnd b := by unfold bnd; split <;> omega
def appendG (P : Program) (i : TypeInfo) (d : V) (new : List (List V)) (s : List O) (K : V → List O → Prop) : Prop :=
 match d with
 | .row true els => csplit new.isEmpty (K d s) (Sd (∀ e ∈ new, e.length = i.size) ∧ Sd (∀ e ∈ els, e.length = i.size) ∧ Sd ((els.length + new.length) * bnd i.bytes ≤ 140737488355327) ∧
   litK s.length fun n => litK i.size fun z => K (.sl n 0 (els.length + new.length)) (s ++ [.arr true z (els ++ new)]))
 | .sl id off len => match at? s id with
  | some (.arr w sz els) => match Nat.beq sz i.size, Nat.beq off 0 with
   | true, true => csplit new.isEmpty (K d s) (Sd (len = els.length) ∧ Sd (∀ e ∈ new, e.length = i.size) ∧ Sd (∀ e ∈ new, ∀ c ∈ e, leafV c = true) ∧ Sd ((els.length + new.length) * bnd i.bytes ≤ 140737488355327) ∧
     litK s.length fun n => K (.sl n 0 (els.length + new.length)) (setAt s id .gone ++ [.arr w sz (els ++ new)]))
   | _, _ => False
  | _ => False
 | _ => False
def appendK (P : Program) (t u : TypeId) (d y : V) (s : List O) (K : V → List O → Prop) : Prop :=
 match P.underlying t with
 | some (.slice el) =>
  match P.info? el with
  | some i => match i.zero with
   | some z => match Nat.beq z.cells.size i.size, Nat.blt 0 i.size with
    | true, true => match P.underlying u, y with
     | some (.slice _), .row _ new => appendG P i d new s K
     | some (.slice _), .sl id off len => match at? s id with
      | some (.arr _ sz els) => match Nat.beq sz i.size with | true => appendG P i d ((els.drop off).take len) s K | false => False
      | _ => False
     | some .string, .str b => match Nat.beq i.size 1 with | true => appendG P i d (b.data.toList.map fun c => [.int .u8 c.toNat]) s K | false => False
     | _, _ => False
    | _, _ => False
   | none => False
  | none => False
 | _ => False
def lenK (P : Program) (t : TypeId) (x : V) (s : List O) (K : V → Prop) : Prop :=
 match P.underlying t with
 | some .string => match x with | .str b => (b.size ≤ 9223372036854775807 → K (.int .i64 b.size)) | _ => False
 | some (.slice _) => match x with
  | .row _ els => (els.length ≤ 9223372036854775807 → K (.int .i64 els.length))
  | .sl _ _ len => (len ≤ 9223372036854775807 → K (.int .i64 len))
  | _ => False
 | some (.array n _) => Sd (n ≤ 9223372036854775807) ∧ K (.int .i64 n)
 | some (.map _ _) => match x with
  | .nilMap => K (.int .i64 0)
  | .map id => match at? s id with | some (.map _ es) => (es.length ≤ 9223372036854775807 → K (.int .i64 es.length)) | _ => False
  | _ => False
 | _ => False
def builtinK (P : Program) (b : Builtin) (ts : Array TypeId) (args : List V) (s : List O) (K : V → List O → Prop) : Prop :=
 match b, args with
 | .len, [x] => match ts[0]? with | some t => lenK P t x s (fun v => K v s) | none => False
 | .append, [d, y] => match ts[0]?, ts[1]? with | some t, some u => appendK P t u d y s K | _, _ => False
 | .max, [.int k x, .int j y] => match decide (k = j) with | true => K (.int k (if y > x then y else x)) s | false => False
 | .delete, [m, k] => match ts[0]? with
  | some t => match P.underlying t, m with
   | some (.map kt _), .map id => match at? s id, leafKey P kt k with
    | some (.map ck es), true => findK P kt k es 0 fun r => match r with | some (i, _) => K (.tup []) (setAt s id (.map ck (es.eraseIdx i))) | none => K (.tup []) s
    | _, _ => False
   | _, _ => False
  | none => False
 | .min, [.int k x, .int j y] => match decide (k = j) with | true => K (.int k (if y < x then y else x)) s | false => False
 | _, _ => False
def clo : Nat → V → Bool
 | 0, _ => false
 | _ + 1, .ptr _ _ => false
 | _ + 1, .eptr _ _ _ => false
 | _ + 1, .sl _ _ _ => false
 | _ + 1, .map _ => false
 | n + 1, .fn _ a b => a.all (clo n) && b.all (clo n)
 | n + 1, .iface _ v => clo n v
 | n + 1, .agg cs => cs.all (clo n)
 | n + 1, .tup cs => cs.all (clo n)
 | _ + 1, _ => true
def isClear : Builtin → Bool | .clear => true | _ => false
def lfz : V → Bool | .int k n => k.wrap n == n | .str b => Nat.ble b.size 9223372036854775807 | _ => false
def clearK (P : Program) (ts : Array TypeId) (args : List V) (s : List O) (K : V → List O → Prop) : Prop :=
 match ts[0]?, args with
 | some t, [.sl id off len] => match P.underlying t with
  | some (.slice el) => match zeroT P el, szT P el, at? s id with
   | some z, some 1, some (.arr true 1 els) => match lfz z with
    | true => K (.tup []) (setAt s id (.arr true 1 (els.take off ++ List.replicate len [z] ++ els.drop (off + len))))
    | false => False
   | _, _, _ => False
  | _ => False
 | _, _ => False
def callK (P : Program) (l : Bool) (e : Env) (c : Call) (s : List O) (K : V → List O → Prop) : Prop :=
 match c.callee with
 | .builtin b => match l && isClear b with
  | false => builtinK P b c.argTypes (c.args.toList.map (ev e)) s K
  | true => clearK P c.argTypes (c.args.toList.map (ev e)) s K
 | .value f => match ev e f with
  | .fn g fs cs => match l with
   | false => fL (fV 8) (fs ++ c.args.toList.map (ev e) ++ cs) fun raw => fL (fV 8) ((fs ++ c.args.toList.map (ev e) ++ cs).map (frz 8 s)) fun args =>
    (∃ r, Ret P g args r ∧ (wfV 8 r → K r (mark s ((fs ++ c.args.toList.map (ev e) ++ cs).flatMap (idl 8 s))))) ∨ (∃ r, (∀ z, RetQ P g raw z fun r' s' => r' = r ∧ s' = z) ∧ K r s) ∨ (∃ r t, RetQ P g raw s (fun r' s' => r' = r ∧ s' = s ++ t) ∧ (!clo 8 r || !raw.all (clo 8)) = true ∧ K r (s ++ t))
   | true => fL (fV 8) (fs ++ c.args.toList.map (ev e) ++ cs) fun raw => fL (fV 8) ((fs ++ c.args.toList.map (ev e) ++ cs).map (frz 8 s)) fun args =>
    (∃ r, Ret P g args r ∧ (wfV 8 r → K r (mark s ((fs ++ c.args.toList.map (ev e) ++ cs).flatMap (idl 8 s))))) ∨ (∃ r s', RetL P g raw s r s' ∧ (wfV 8 r → wfL s' → K r s')) ∨ (∃ Q, RetQ P g raw s Q ∧ ∀ r s', Q r s' → wfV 8 r → wfL s' → K r s') ∨ (∃ Q, RetE P g args Q ∧ ∀ r, Q r → wfV 8 r → K r (mark s ((fs ++ c.args.toList.map (ev e) ++ cs).flatMap (idl 8 s))))
  | _ => False
 | .invoke _ _ => False
def convK (P : Program) (src dst : TypeId) (x : V) (s : List O) (K : V → List O → Prop) : Prop :=
 match P.underlying src, P.underlying dst, x with
 | some _, some (.int k), .int _ n => K (.int k (k.wrap n)) s
 | some _, some .string, .str b => K (.str b) s
 | some (.slice el), some .string, x => match P.underlying el with
  | some (.int .u8) => match x with
   | .row _ els => (∀ l, bytesV els = some l → K (.str (ByteArray.mk (l.map fun n => UInt8.ofNat n.toNat).toArray)) s) ∧ Sd ((bytesV els).isSome = true)
   | .sl id off len => match at? s id with
    | some (.arr _ _ els) => (∀ l, bytesV ((els.drop off).take len) = some l → K (.str (ByteArray.mk (l.map fun n => UInt8.ofNat n.toNat).toArray)) s) ∧ Sd ((bytesV ((els.drop off).take len)).isSome = true)
    | _ => False
   | _ => False
  | _ => False
 | some .string, some (.slice el), .str b => match P.underlying el, szT P el with
  | some (.int .u8), some 1 => Sd (b.size ≤ 140737488355327) ∧ litK s.length fun n => K (.sl n 0 b.size) (s ++ [.arr true 1 (b.data.toList.map fun c => [.int .u8 c.toNat])])
  | _, _ => False
 | _, _, _ => False
def sliceK (P : Program) (t : TypeId) (x : V) (lo hi mx : Option V) (s : List O) (K : V → Prop) : Prop :=
 match P.underlying t, x with
 | some .string, .str b => match mx with
  | none => lowK lo fun l => highK b.size hi fun h => Sd (0 ≤ l ∧ l ≤ h ∧ h ≤ b.size) ∧ K (.str (b.extract l.toNat h.toNat))
  | some _ => False
 | some (.slice el), .row x els =>
  match szT P el with
  | some z => match mx with
   | none => lowK lo fun l => highK els.length hi fun h => Sd (0 ≤ l ∧ l ≤ h ∧ h ≤ els.length) ∧ Sd (∀ e ∈ els, e.length = z) ∧ K (.row (x && decide (h = els.length)) ((els.drop l.toNat).take (h - l).toNat))
   | some m => match hi with
    | none => False
    | some hv => lowK lo fun l => lowK (some hv) fun h => lowK (some m) fun m => Sd (0 ≤ l ∧ l ≤ h ∧ h ≤ m ∧ m ≤ els.length) ∧ Sd (∀ e ∈ els, e.length = z) ∧ K (.row (decide (h = m)) ((els.drop l.toNat).take (h - l).toNat))
  | none => False
 | some (.slice el), .sl id off len => match mx, at? s id, szT P el with
  | none, some (.arr _ sz els), some z => match Nat.beq sz z with
   | true => lowK lo fun l => highK len hi fun h => Sd (0 ≤ l ∧ l ≤ h ∧ h ≤ len) ∧ K (.sl id (off + l.toNat) (h - l).toNat)
   | false => False
  | _, _, _ => False
 | _, _ => False
def litBs (P : Program) (t : TypeId) (ps : Array (Nat × Operand)) : Bool :=
 match P.underlying t with
 | some (.slice el) => match P.underlying el with
  | some (.int .u8) => !ps.isEmpty && ps.toList.all fun p => match p.2 with | .const _ => true | _ => false
  | _ => false
 | _ => false
def litSl (P : Program) (t u : TypeId) : Bool :=
 match P.underlying t with
 | some (.slice el) => match P.underlying el with
  | some (.int .u8) => Nat.beq t u
  | _ => false
 | _ => false
def intStr (P : Program) (a b : TypeId) : Bool := match P.underlying a, P.underlying b with | some (.int _), some .string => true | _, _ => false
def isNilC : Operand → Bool
 | .const (.slice none _ _) => true
 | _ => false
def opK (P : Program) (l : Bool) (e : Env) (s : List O) (o : Oper) (K : V → List O → Prop) : Prop :=
 match o.op with
 | .move x => K (ev e x) s
 | .assign x => K (ev e x) s
 | .pick c a b => match ev e c with | .bool t => csplit t (K (ev e a) s) (K (ev e b) s) | _ => False
 | .alloc t => match (zeroT P t).bind cellsV with | some cs => litK s.length fun n => K (.ptr n 0) (s ++ [.box true cs]) | none => False
 | .box t x => match cellsV (ev e x) with | some cs => litK s.length fun n => K (.ptr n 0) (s ++ [.box true cs]) | none => False
 | .build t ps =>
  match P.underlying t, (zeroT P t).bind cellsV with
  | some (.struct fs), some z => match fillS P fs z (ps.toList.map fun (i, x) => (i, ev e x)) with | some cs => K (.agg cs) s | none => False
  | some (.array _ el), some z => match szT P el with
   | some n => match fillA n z (ps.toList.map fun (i, x) => (i, ev e x)) with | some cs => K (.agg cs) s | none => False
   | none => False
  | _, _ => False
 | .buildSlice t len ps =>
  match P.underlying t with
  | some (.slice el) => match (zeroT P el).bind cellsV, szT P el with
   | some z, some n => match Nat.ble (len * n) 16777216, Nat.beq z.length n, Nat.blt 0 n, fillR n (List.replicate len z) (ps.toList.map fun (i, x) => (i, frz 8 s (ev e x))) with
    | true, true, true, some els => match l && litBs P t ps with
     | false => fR len els fun els => K (.row true els) (mark s (ps.toList.flatMap fun (_, x) => idl 8 s (ev e x)))
     | true => fR len els fun els => litK s.length fun k => litK n fun n => K (.sl k 0 len) (mark s (ps.toList.flatMap fun (_, x) => idl 8 s (ev e x)) ++ [.arr true n els])
    | _, _, _, _ => False
   | _, _ => False
  | _ => False
 | .load t a =>
  match ev e a with
  | .ptr id off => match at? s id with | some (.box _ cs) => (match ldV P t (cs.drop off) with | some v => K v s | none => False) | _ => False
  | .elem cs => match ldV P t cs with | some v => K v s | none => False
  | .eptr id i off => match at? s id with
   | some (.arr _ _ els) => Sd (i < els.length) ∧ ∀ cs, els[i]? = some cs → match ldV P t (cs.drop off) with | some v => K v s | none => False
   | _ => False
  | _ => False
 | .store t a x =>
  match ev e a, cellsV (ev e x), szT P t with
  | .ptr id off, some new, some n => match at? s id with
   | some (.box true cs) => match Nat.beq new.length n, Nat.ble (off + new.length) cs.length, new.all leafV with
    | true, true, true => K (.tup []) (setAt s id (.box true (splice cs off new)))
    | _, _, _ => False
   | _ => False
  | .eptr id i off, some new, some n => match at? s id with
   | some (.arr true sz els) => Sd (i < els.length) ∧ ∀ cs, els[i]? = some cs → match Nat.beq new.length n, Nat.ble (off + new.length) cs.length, new.all leafV with
    | true, true, true => K (.tup []) (setAt s id (.arr true sz (setAt els i (splice cs off (new.map (ren 8 []))))))
    | _, _, _ => False
   | _ => False
  | _, _, _ => False
 | .nilCheck x => match notNil (ev e x) with
  | true => K (ev e x) s
  | false => False
 | .binOp op t x y _ => match l && isNilC y with
  | true => match P.underlying t, ev e x with
   | some (.slice _), .row _ els => (els = [] → match flip op true with | some r => K (.bool r) s | none => False) ∧ match flip op false with | some r => K (.bool r) s | none => False
   | some (.slice _), .sl _ _ len => (len = 0 → match flip op true with | some r => K (.bool r) s | none => False) ∧ match flip op false with | some r => K (.bool r) s | none => False
   | _, _ => binK P op t (ev e x) (ev e y) fun v => K v s
  | false => binK P op t (ev e x) (ev e y) fun v => K v s
 | .unOp op _ x => unK op (ev e x) fun v => K v s
 | .convert a b x => match l && litSl P a b with
  | false => match l && intStr P a b with
   | false => convK P a b (ev e x) s K
   | true => match ev e x with | .int _ n => K (.str (Utf8.encode n)) s | _ => False
  | true => match ev e x with
   | .sl id off len => match Nat.ble 1 len, at? s id with
    | true, some (.arr true _ _) => K (.sl id off len) s
    | _, _ => False
   | _ => False
 | .makeInterface t x => match P.underlying t with | some (.interface _) => False | some _ => K (.iface t (ev e x)) s | none => False
 | .typeAssert x xt at_ ok =>
  match P.underlying at_ with
  | some (.interface _) => False
  | some _ => match ev e x with
   | .iface t v => match Nat.beq t at_ with
    | true => match ok with | true => K (.tup [v, .bool true]) s | false => K v s
    | false => match ok, zeroT P at_ with | true, some z => K (.tup [z, .bool false]) s | _, _ => False
   | .nilI => match ok, zeroT P at_ with | true, some z => K (.tup [z, .bool false]) s | _, _ => False
   | _ => False
  | none => False
 | .makeFunc fn a b => match fn with | .func f => K (.fn f (a.toList.map (ev e)) (b.toList.map (ev e))) s | _ => False
 | .slice t x lo hi mx => sliceK P t (ev e x) (lo.map (ev e)) (hi.map (ev e)) (mx.map (ev e)) s fun v => K v s
 | .fieldAddr t x i =>
  match P.underlying t with
  | some (.struct fs) => match fs[i]? with
   | some f => match szT P f.type with
    | some (_ + 1) => match ev e x with
     | .ptr id off => litK (off + f.offset) fun fo => K (.ptr id fo) s
     | .eptr id j off => litK (off + f.offset) fun fo => K (.eptr id j fo) s
     | .elem cs => K (.elem (cs.drop f.offset)) s
     | _ => False
    | _ => False
   | none => False
  | _ => False
 | .field t x i =>
  match P.underlying t, ev e x with
  | some (.struct fs), .agg cs => match fs[i]? with
   | some f => match ldV P f.type (cs.drop f.offset) with | some v => K v s | none => False
   | none => False
  | _, _ => False
 | .indexAddr t x i =>
  match P.underlying t, ev e x, ev e i with
  | some (.slice el), .row _ els, .int _ n => match szT P el with
   | some z => Sd (0 ≤ n ∧ n < els.length) ∧ ∀ cs, els[n.toNat]? = some cs → Sd (cs.length = z) ∧ K (.elem cs) s
   | none => False
  | some (.slice el), .sl id off len, .int _ n => match at? s id, szT P el with
   | some (.arr _ sz els), some z => match Nat.beq sz z with
    | true => Sd (0 ≤ n ∧ n < len) ∧ K (.eptr id (off + n.toNat) 0) s
    | false => False
   | _, _ => False
  | some (.array len el), .ptr id off, .int _ n => match szT P el with
   | some z => Sd (0 ≤ n ∧ n < len) ∧ K (.ptr id (off + n.toNat * z)) s
   | none => False
  | some (.array len el), .elem cs, .int _ n => match szT P el with
   | some z => Sd (0 ≤ n ∧ n < len) ∧ K (.elem (cs.drop (n.toNat * z))) s
   | none => False
  | _, _, _ => False
 | .index t x i =>
  match P.underlying t, ev e x, ev e i with
  | some .string, .str b, .int _ n => Sd (0 ≤ n ∧ n < b.size) ∧ ∀ c, b[n.toNat]? = some c → K (.int .u8 c.toNat) s
  | some (.array len el), .agg cs, .int _ n => match szT P el with
   | some z => Sd (0 ≤ n ∧ n < len) ∧ Sd ((ldV P el (cs.drop (n.toNat * z))).isSome = true) ∧ ∀ v, ldV P el (cs.drop (n.toNat * z)) = some v → K v s
   | none => False
  | _, _, _ => False
 | .extract t i => match ev e t with | .tup vs => (match at? vs i with | some v => K v s | none => False) | _ => False
 | .call c => callK P l e c s K
 | .lookup t m k ok =>
  match P.underlying t with
  | some (.map kt el) => match zeroT P el, keyOk P kt (ev e k) with
   | some z, true => match ev e m with
    | .nilMap => K (two ok z false) s
    | .map id => match at? s id with
     | some (.map _ es) => findK P kt (ev e k) es 0 fun r => match r with | some (_, x) => K (two ok x.2.2 true) s | none => K (two ok z false) s
     | _ => False
    | _ => False
   | _, _ => False
  | _ => False
 | .mapUpdate t m k x =>
  match P.underlying t, ev e m with
  | some (.map kt _), .map id => match at? s id, keyOk P kt (ev e k) with
   | some (.map ck es), true => fV 4 (ev e k) fun kk => fV 4 (ev e x) fun xx => findK P kt kk es 0 fun r => match r with
    | some (i, y) => K (.tup []) (setAt s id (.map ck (setAt es i (y.1, kk, xx))))
    | none => Sd (es.length < 9223372036854775807) ∧ litK (ck + 1) fun c1 => K (.tup []) (setAt s id (.map c1 (es ++ [(ck, kk, xx)])))
   | _, _ => False
  | _, _ => False
 | .mapEntry t m k =>
  match P.underlying t, ev e m with
  | some (.map kt el), .map id => match at? s id, keyOk P kt (ev e k), zeroT P el with
   | some (.map ck es), true, some z => fV 4 (ev e k) fun kk => findK P kt kk es 0 fun r => match r with
    | some (_, y) => Sd (y.1 ≤ 9223372036854775807) ∧ K (.tup [y.2.2, .int .i64 y.1]) s
    | none => Sd (es.length < 9223372036854775807) ∧ Sd (ck ≤ 9223372036854775807) ∧ litK (ck + 1) fun c1 => K (.tup [z, .int .i64 ck]) (setAt s id (.map c1 (es ++ [(ck, kk, z)])))
   | _, _, _ => False
  | _, _ => False
 | .entryStore _ m st x =>
  match ev e m, ev e st with
  | .map id, .int _ n => match at? s id with
   | some (.map ck es) => fV 4 (ev e x) fun xx => Sd (∃ y ∈ es, (y.1 : Int) = n) ∧ K (.tup []) (setAt s id (.map ck (updB n.toNat xx es)))
   | _ => False
  | _, _ => False
 | .makeMap _ none => litK s.length fun n => K (.map n) (s ++ [.map 0 []])
 | .range t x =>
  match P.underlying t, ev e x with
  | some (.map _ _), .map id => match at? s id with
   | some (.map ck _) => litK s.length fun n => K (.ptr n 0) (s ++ [.it id ck ck []])
   | _ => False
  | some .string, .str b => litK s.length fun n => K (.ptr n 0) (s ++ [.raw (.stringIter b 0)])
  | _, _ => False
 | .next x isS =>
  match isS, ev e x with
  | false, .ptr id 0 => match at? s id with
   | some (.it mid since _ seen) => match at? s mid with
    | some (.map ck es) => Sd (∀ y ∈ es, y.1 < since) ∧ Sd (since ≤ ck) ∧ (leftM es seen = [] → K (.tup [.bool false]) s) ∧ ∀ y, y ∈ leftM es seen → K (.tup [.bool true, y.2.1, y.2.2]) (setAt s id (.it mid since ck (y.1 :: seen)))
    | _ => False
   | _ => False
  | true, .ptr id 0 => match at? s id with
   | some (.raw (.stringIter b pos)) => csplit (decide (pos < b.size)) (Sd (b.size ≤ 9223372036854775807) ∧ K (.tup [.bool true, .int .i64 pos, .int .i32 (Utf8.decode b pos).1]) (setAt s id (.raw (.stringIter b (pos + (Utf8.decode b pos).2))))) (K (.tup [.bool false]) s)
   | _ => False
  | _, _ => False
 | .entry x =>
  match ev e x with
  | .ptr id 0 => match at? s id with
   | some (.it mid _ last (b :: _)) => match at? s mid with
    | some (.map ck es) => match Nat.beq ck last, findB b es with
     | true, some y => K (.tup [y.2.1, y.2.2]) s
     | _, _ => False
    | _ => False
   | _ => False
  | _ => False
 | _ => False
def opsC (P : Program) (l : Bool) (all : Array Oper) (o : Oper) (ih : (Env → List O → Prop) → Env → List O → Prop) (K : Env → List O → Prop) (e : Env) (s : List O) : Prop :=
 match o.guard with
 | none => opK P l e s o fun v s' => fV 4 v fun v => fL fO s' fun s' => putK e o.dst v fun e => ih K e s'
 | some (j, want) =>
  match (all[j]?).bind (·.dst) with
  | some t => match e.get t with
   | .bool b => match want with
    | true => csplit b (setK e t (.bool true) fun e => opK P l e s o fun v s' => fV 4 v fun v => fL fO s' fun s' => putK e o.dst v fun e => ih K e s') (setK e t (.bool false) fun e => putK e o.dst (.tup []) fun e => ih K e s)
    | false => csplit b (setK e t (.bool true) fun e => putK e o.dst (.tup []) fun e => ih K e s) (setK e t (.bool false) fun e => opK P l e s o fun v s' => fV 4 v fun v => fL fO s' fun s' => putK e o.dst v fun e => ih K e s')
   | .tup [] => putK e o.dst (.tup []) fun e => ih K e s
   | _ => False
  | none => False
noncomputable def opsK (P : Program) (l : Bool) (all : Array Oper) (os : List Oper) : (Env → List O → Prop) → Env → List O → Prop :=
 List.rec (motive := fun _ => (Env → List O → Prop) → Env → List O → Prop) (fun K e s => K e s) (fun o _ ih => opsC P l all o ih) os
theorem opsK_nil (P : Program) (l : Bool) (all : Array Oper) (K : Env → List O → Prop) (e : Env) (s : List O) : opsK P l all [] K e s = K e s := rfl
theorem opsK_cons (P : Program) (l : Bool) (all : Array Oper) (o : Oper) (os : List Oper) (K : Env → List O → Prop) (e : Env) (s : List O) : opsK P l all (o :: os) K e s = opsC P l all o (opsK P l all os) K e s := rfl
inductive Ex where
 | nrm
 | ext (id : Nat)
 | rtn
abbrev Qs := Ex → Env → List O → Prop
abbrev Ws := Qs → Env → List O → Prop
def topId : V → Option Nat
 | .ptr i _ => some i
 | .eptr i _ _ => some i
 | .sl i _ _ => some i
 | .map i => some i
 | _ => none
def mild : Op → Bool
 | .buildSlice _ _ _ => true
 | .call { callee := .value _, .. } => true
 | _ => false
def closedO (e : Env) (o : Oper) : Bool := o.op.operands.toList.all fun x => clo 8 (ev e x)
def looks : Op → List Operand
 | .load _ x => [x]
 | .convert _ _ x => [x]
 | .slice _ x _ _ _ => [x]
 | .indexAddr _ x _ => [x]
 | .call { callee := .builtin _, args := args, .. } => args.toList
 | .lookup _ m _ _ => [m]
 | _ => []
def tg (e : Env) (o : Oper) : Option Nat := match o.op with | .store _ a _ => topId (ev e a) | .mapUpdate _ m _ _ => topId (ev e m) | .mapEntry _ m _ => topId (ev e m) | .entryStore _ m _ _ => topId (ev e m) | .call { callee := .builtin .delete, args := args, .. } => (match args.toList with | m :: _ => topId (ev e m) | [] => none) | .call { callee := .builtin .append, args := args, .. } => (match args.toList with | m :: _ => topId (ev e m) | [] => none) | _ => none
def apartB (e : Env) (x y : Oper) : Bool := match tg e x with | some k => (looks y.op).all (fun z => match topId (ev e z) with | some j => !Nat.beq j k | none => true) | none => true
def sameX : Operand → Operand → Bool
 | .tmp a, .tmp b => Nat.beq a b
 | _, _ => false
def entLook (x y : Op) : Bool := match x, y with | .mapEntry t m k, .lookup u n l false => Nat.beq t u && sameX m n && sameX k l | _, _ => false
def drawDue (ops : Array Oper) (C : List Nat) (L : List (Nat × Nat)) (e : Env) : Bool :=
 (C.all fun i => match at? ops.toList i with | some o => closedO e o && (match o.dst with | some t => clo 8 (e.get t) | none => false) | none => true) &&
 (L.all fun p => match at? ops.toList p.1, at? ops.toList p.2 with | some x, some y => apartB e x y && apartB e y x || (entLook x.op y.op || entLook y.op x.op) | _, _ => true)
def gl : List (Nat × List Nat × List (Nat × Nat)) → Nat → List Nat × List (Nat × Nat)
 | [], _ => ([], [])
 | (k, x) :: l, n => match Nat.beq k n with | true => x | false => gl l n
def depO (o : Oper) : List Nat := (o.after.toList.filter (Region.binds .any)).map (·.on)
def depT (ops : Array Oper) : List (List Nat) := ops.toList.map depO
def memB (l : List Nat) (j : Nat) : Bool := l.any (Nat.beq j)
def rdyF (done : List Nat) : Nat → List (List Nat) → List Nat
 | _, [] => []
 | i, d :: T => match !memB done i && d.all (memB done) with | true => i :: rdyF done (i + 1) T | false => rdyF done (i + 1) T
def qop (o : Oper) : Bool := match o.op, o.guard with | .move _, none => true | .assign _, none => true | _, _ => false
def pickQ (os : List Oper) : List Nat → Option Nat
 | [] => none
 | i :: rs => match at? os i with | some o => (match qop o with | true => some i | false => pickQ os rs) | none => pickQ os rs
structure Bth (p q : Prop) : Prop where
 l : p
 r : q
noncomputable def allB (f : Nat → Prop) (rs : List Nat) : Prop := List.rec (motive := fun _ => Prop) True (fun i _ ih => Bth (f i) ih) rs
def anyS (P : Program) (ops : Array Oper) (K : Env → List O → Prop) (ih : List Nat → Env → List O → Prop) (done : List Nat) (e : Env) (s : List O) (j : Nat) : Prop :=
 match at? ops.toList j with | some o => litK j fun j => opsC P true ops o (fun _ e s => ih (j :: done) e s) K e s | none => False
noncomputable def anyK (P : Program) (ops : Array Oper) (K : Env → List O → Prop) (n : Nat) : List Nat → Env → List O → Prop :=
 Nat.rec (motive := fun _ => List Nat → Env → List O → Prop) (fun done e s => match rdyF done 0 (depT ops) with | [] => K e s | _ :: _ => False)
  (fun _ ih done e s => match rdyF done 0 (depT ops) with
   | [] => K e s
   | i :: rs => match pickQ ops.toList (i :: rs) with
    | some j => anyS P ops K ih done e s j
    | none => allB (anyS P ops K ih done e s) (i :: rs)) n
def anyM : List Nat → Bool
 | c :: _ => Nat.beq c 9999
 | [] => false
def anyOk (ops : Array Oper) : Bool := Region.noSelect ops && (List.range ops.size).all fun i => match at? ops.toList i with | some o => !qop o || Region.free .any ops ((List.range ops.size).map (memB (depO o))).toArray i | none => true
def cRegion (P : Program) (H : Nat → Option (List Nat)) (G : List (Nat × List Nat × List (Nat × Nat))) (id : Nat) (ops : Array Oper) (d : Bool) (Q : Qs) (e : Env) (s : List O) : Prop :=
 match d with
 | false => opsK P true ops ops.toList (fun e s => match H id with | some ks => keepK (fun v => v) e ks fun e => Q .nrm e s | none => Q .nrm e s) e s
 | true => match anyM (gl G id).1 with
  | true => ∃ J : Env → List O → Prop, Bth (anyK P ops (fun e s => match H id with | some ks => keepK (fun v => v) e ks fun e => J e s | none => J e s) ops.size [] e s) (∀ e s, J e s → Q .nrm e s)
  | false => match gl G id with
   | (C, L) => opsK P false ops ops.toList (fun e s => match drawDue ops C L e with
    | true => match H id with | some ks => keepK (fun v => v) e ks fun e => Q .nrm e s | none => Q .nrm e s
    | false => False) e s
def cSeq (a b : Ws) (Q : Qs) (e : Env) (s : List O) : Prop := a (fun x e s => match x with | .nrm => b Q e s | .ext i => Q (.ext i) e s | .rtn => Q .rtn e s) e s
def cCond (c : Operand) (a b : Ws) (Q : Qs) (e : Env) (s : List O) : Prop := match ev e c with | .bool t => csplit t (setB e c true fun e => a Q e s) (setB e c false fun e => b Q e s) | _ => False
def cBlock (id : Nat) (b : Ws) (Q : Qs) (e : Env) (s : List O) : Prop :=
 b (fun x e s => match x with | .nrm => Q .nrm e s | .ext i => (match Nat.beq i id with | true => Q .nrm e s | false => Q (.ext i) e s) | .rtn => Q .rtn e s) e s
def pre : Nat → Nat → List Nat → Bool
 | 0, _, _ => true
 | n + 1, i, j :: g => Nat.beq i j && pre n (i + 1) g
 | _ + 1, _, [] => false
def Looped (pn : Nat) (b : Ws) (Q : Qs) (e : Env) (s : List O) : Prop :=
 ∃ (σ : Type) (ks g : List Nat) (E : σ → Env) (S : σ → List O) (J : σ → Prop) (μ : σ → Nat), (nd g && pre pn 0 g) = true ∧
   (keepK (ren 8 g) e ks fun e => fL fO (selO s g) fun s => ∃ x, e = E x ∧ s = S x ∧ J x) ∧
   ∀ x, J x → b (fun y e' s' => match y with
    | .nrm => keepK (ren 8 g) e' ks fun e' => fL fO (selO s' g) fun s' => ∃ z, e' = E z ∧ s' = S z ∧ J z ∧ μ z < μ x
    | .ext i => Q (.ext i) e' s'
    | .rtn => Q .rtn e' s') (E x) (S x)
noncomputable def Unr (b : Ws) (Q : Qs) (n : Nat) : Env → List O → Prop :=
 Nat.rec (motive := fun _ => Env → List O → Prop) (fun _ _ => False) (fun _ ih e s => b (fun y e' s' => match y with | .nrm => ih e' s' | .ext i => Q (.ext i) e' s' | .rtn => Q .rtn e' s') e s) n
def LoopedN (b : Ws) (Q : Qs) (e : Env) (s : List O) : Prop :=
 ∃ (σ : Type) (ks : List Nat) (E : σ → Env) (J : σ → List O → Prop) (μ : σ → Nat),
   (keepK (fun v => v) e ks fun e => ∃ x, e = E x ∧ J x s) ∧
   ∀ x s, J x s → wfL s → b (fun y e' s' => match y with
    | .nrm => keepK (fun v => v) e' ks fun e' => ∃ z, e' = E z ∧ J z s' ∧ μ z < μ x
    | .ext i => Q (.ext i) e' s'
    | .rtn => Q .rtn e' s') (E x) s
def LoopedG (pn : Nat) (b : Ws) (Q : Qs) (e : Env) (s : List O) : Prop :=
 ∃ (σ : Type) (ks : List Nat) (E : σ → Env) (S : σ → List O) (J : σ → Prop) (μ : σ → Nat),
   (∃ g, (nd g && pre pn 0 g) = true ∧ keepK (ren 8 g) e ks fun e => fL fO (selO s g) fun s => ∃ x, e = E x ∧ s = S x ∧ J x) ∧
   ∀ x, J x → b (fun y e' s' => match y with
    | .nrm => ∃ g, (nd g && pre pn 0 g) = true ∧ keepK (ren 8 g) e' ks fun e' => fL fO (selO s' g) fun s' => ∃ z, e' = E z ∧ s' = S z ∧ J z ∧ μ z < μ x
    | .ext i => Q (.ext i) e' s'
    | .rtn => Q .rtn e' s') (E x) (S x)
def LoopedF (pn : Nat) (b : Ws) (Q : Qs) (e : Env) (s : List O) : Prop :=
 ∃ (σ : Type) (ks g : List Nat) (E : σ → Env) (S : σ → List O) (J : σ → Prop) (μ : σ → Nat), (nd g && pre pn 0 g) = true ∧
   (keepK (fun v => ren 8 g (fzV 4 s v)) e ks fun e => fL fO (selO (fzS s) g) fun s => ∃ x, e = E x ∧ s = S x ∧ J x) ∧
   ∀ x, J x → b (fun y e' s' => match y with
    | .nrm => keepK (ren 8 g) e' ks fun e' => fL fO (selO s' g) fun s' => ∃ z, e' = E z ∧ s' = S z ∧ J z ∧ μ z < μ x
    | .ext i => Q (.ext i) e' s'
    | .rtn => Q .rtn e' s') (E x) (S x)
def cLoop (pn : Nat) (b : Ws) (Q : Qs) (e : Env) (s : List O) : Prop := Looped pn b Q e s ∨ (∃ n, Unr b Q n e s) ∨ LoopedN b Q e s ∨ LoopedF pn b Q e s ∨ LoopedG pn b Q e s
noncomputable def awp (pn : Nat) (P : Program) (H : Nat → Option (List Nat)) (G : List (Nat × List Nat × List (Nat × Nat))) (c : Code) : Ws :=
 Code.rec (motive := fun _ => Ws) (fun Q e s => Q .nrm e s) (fun id ops d => cRegion P H G id ops d) (fun _ _ a b => cSeq a b) (fun c _ _ a b => cCond c a b) (fun id _ b => cBlock id b) (fun _ b => cLoop pn b)
  (fun _ _ _ _ _ _ _ _ _ => False) (fun id Q e s => Q (.ext id) e s) (fun _ _ _ _ _ => False) (fun _ _ _ _ => False) (fun _ _ _ _ => False) (fun Q e s => Q .rtn e s) (fun _ _ _ _ => False) c
def resV (P : Program) (e : Env) (s : List O) : ResultVar → Option V
 | .tmp t => some (e.get t)
 | .cell a t => match e.get a with | .ptr id off => (match at? s id with | some (.box _ cs) => ldV P t (cs.drop off) | _ => none) | _ => none
def resL (P : Program) (e : Env) (s : List O) : List ResultVar → Option (List V)
 | [] => some []
 | x :: xs => match resV P e s x, resL P e s xs with | some v, some vs => some (v :: vs) | _, _ => none
def resE (P : Program) (rs : List ResultVar) (Q : V → Prop) (e : Env) (s : List O) : Prop :=
 match resL P e s rs with
 | some [v] => fV 8 (frz 8 s v) fun v => Q v
 | some vs => fV 8 (V.tup (vs.map (frz 7 s))) fun v => Q v
 | none => False
def finE (P : Program) (rs : List ResultVar) (Q : V → Prop) (x : Ex) (e : Env) (s : List O) : Prop :=
 match x with | .nrm => resE P rs Q e s | .rtn => resE P rs Q e s | .ext _ => False
def finK (P : Program) (rs : List ResultVar) (r : V) (x : Ex) (e : Env) (s : List O) : Prop :=
 match x with | .nrm => resE P rs (fun v => v = r) e s | .rtn => resE P rs (fun v => v = r) e s | .ext _ => False
def idr : Nat → List O → V → List Nat
 | 0, _, _ => []
 | n + 1, s, .ptr id _ => id :: (match at? s id with | some (.box _ cs) => cs.flatMap (idr n s) | some (.it mid _ _ _) => [mid] | _ => [])
 | _ + 1, _, .eptr id _ _ => [id]
 | _ + 1, _, .sl id _ _ => [id]
 | n + 1, s, .map id => id :: (match at? s id with | some (.map _ es) => es.flatMap fun x => idr n s x.2.2 | _ => [])
 | n + 1, s, .fn _ a b => a.flatMap (idr n s) ++ b.flatMap (idr n s)
 | n + 1, s, .iface _ v => idr n s v
 | n + 1, s, .agg cs => cs.flatMap (idr n s)
 | n + 1, s, .tup cs => cs.flatMap (idr n s)
 | _ + 1, _, _ => []
def addN (pn : Nat) : List Nat → List Nat → List Nat
 | acc, [] => acc
 | acc, a :: l => match Nat.ble pn a && (acc.all fun b => !Nat.beq a b) with | true => addN pn (acc ++ [a]) l | false => addN pn acc l
def upto : Nat → Nat → List Nat
 | _, 0 => []
 | i, n + 1 => i :: upto (i + 1) n
def keepG (pn : Nat) (vs : List V) (s : List O) : List Nat :=
 upto 0 pn ++ addN pn [] ((s.take pn).flatMap (fun o => match o with | .box _ cs => cs.flatMap (idr 8 s) | .map _ es => es.flatMap fun x => idr 8 s x.2.2 | _ => []) ++ vs.flatMap (idr 8 s))
def finL (P : Program) (rs : List ResultVar) (r : V) (s1 : List O) (gf : List V → List O → List Nat) (fm : Bool) (pn : Nat) (x : Ex) (e : Env) (s : List O) : Prop :=
 match x with
 | .ext _ => False
 | _ => match resL P e s rs with
  | none => False
  | some vs => fL litK (gf vs s) fun g => match nd g && pre pn 0 g with
   | false => False
   | true => match vs with
    | [v] => fW 8 (ren 8 g v) fun v => fL (match fm with | true => fOm | false => fO) (selO s g) fun t => v = r ∧ t = s1
    | vs => fW 8 (V.tup (vs.map (ren 7 g))) fun v => fL (match fm with | true => fOm | false => fO) (selO s g) fun t => v = r ∧ t = s1
def finQ (P : Program) (rs : List ResultVar) (Q : V → List O → Prop) (x : Ex) (e : Env) (s : List O) : Prop :=
 match x with
 | .ext _ => False
 | _ => match resL P e s rs with
  | none => False
  | some [v] => fW 8 v fun v => Q v s
  | some vs => fW 8 (V.tup vs) fun v => Q v s
def env0 (args : List V) : Env := args.zipIdx.map fun (v, i) => (i, v)
end Go.Proofs.YtcbknemdidehlaaGreatDoor.Ab
namespace Go.Proofs.YtcbknemdidehlaaGreatDoor.Ab
open Go.RowKit
set_option linter.unusedVariables false
set_option linter.unusedSimpArgs false
theorem Mem.le.refl (m : Mem) : m.le m := fun _ _ _ h => h
theorem Mem.le.trans {a b c : Mem} (h : a.le b) (k : b.le c) : a.le c := fun _ _ _ x => k _ _ _ (h _ _ _ x)
theorem Rep.mono {m m' : Mem} (hm : m.le m') {ι : List Blk} {v : V} {x : Value} (h : Rep m ι v x) : Rep m' ι v x := by
 induction h with
 | undef ι v => exact .undef ι v
 | int ι k n h => exact .int ι k n h
 | bool ι b => exact .bool ι b
 | str ι s h => exact .str ι s h
 | nilFn ι => exact .nilFn ι
 | nilPtr ι => exact .nilPtr ι
 | nilMap ι => exact .nilMap ι
 | nilI ι => exact .nilI ι
 | fn ι f a b va vb ha hb ra rb iha ihb => exact .fn ι f a b va vb ha hb iha ihb
 | iface ι t v x h ih => exact .iface ι t v x ih
 | ptr ι id off β h => exact .ptr ι id off β h
 | eptr ι id i off β h => exact .eptr ι id i off β h
 | elem ι cs b o g h hr ih => exact .elem ι cs b o g (fun j c hj => hm _ _ _ (h j c hj)) ih
 | row ι x els a cap sz b o g hx hc hl hs ha h hr ih => exact .row ι x els a cap sz b o g hx hc hl hs ha (fun i j e c h1 h2 => hm _ _ _ (h i j e c h1 h2)) ih
 | sl ι id off len a cap β h hl hc hn hb ha => exact .sl ι id off len a cap β h hl hc hn hb ha
 | map ι id β h => exact .map ι id β h
 | agg ι cs vs hl hr ih => exact .agg ι cs vs hl ih
 | tup ι cs vs hl hr ih => exact .tup ι cs vs hl ih
theorem Rep.ext {m : Mem} {ι : List Blk} {v : V} {x : Value} (h : Rep m ι v x) : ∀ {κ : List Blk}, (∀ (i : Nat) β, ι[i]? = some β → κ[i]? = some β) → Rep m κ v x := by
 induction h with
 | undef ι v => exact fun _ => .undef _ v
 | int ι k n h => exact fun _ => .int _ k n h
 | bool ι b => exact fun _ => .bool _ b
 | str ι s h => exact fun _ => .str _ s h
 | nilFn ι => exact fun _ => .nilFn _
 | nilPtr ι => exact fun _ => .nilPtr _
 | nilMap ι => exact fun _ => .nilMap _
 | nilI ι => exact fun _ => .nilI _
 | fn ι f a b va vb ha hb ra rb iha ihb => exact fun e => .fn _ f a b va vb ha hb (fun i x y h1 h2 => iha i x y h1 h2 e) (fun i x y h1 h2 => ihb i x y h1 h2 e)
 | iface ι t v x h ih => exact fun e => .iface _ t v x (ih e)
 | ptr ι id off β h => exact fun e => .ptr _ id off β (e _ _ h)
 | eptr ι id i off β h => exact fun e => .eptr _ id i off β (e _ _ h)
 | elem ι cs b o g h hr ih => exact fun e => .elem _ cs b o g h hr
 | row ι x els a cap sz b o g hx hc hl hs ha h hr ih => exact fun e => .row _ x els a cap sz b o g hx hc hl hs ha h hr
 | sl ι id off len a cap β h hl hc hn hb ha => exact fun e => .sl _ id off len a cap β (e _ _ h) hl hc hn hb ha
 | map ι id β h => exact fun e => .map _ id β (e _ _ h)
 | agg ι cs vs hl hr ih => exact fun e => .agg _ cs vs hl (fun i x y h1 h2 => ih i x y h1 h2 e)
 | tup ι cs vs hl hr ih => exact fun e => .tup _ cs vs hl (fun i x y h1 h2 => ih i x y h1 h2 e)
theorem Rep.closed {m : Mem} {v : V} {x : Value} (h : Rep m [] v x) (ι : List Blk) : Rep m ι v x := h.ext fun i β hi => by simp at hi
theorem at?_eq {α : Type} : ∀ (l : List α) (i : Nat), at? l i = l[i]?
 | [], i => by simp [at?]
 | a :: l, 0 => by simp [at?]
 | a :: l, i + 1 => by simp [at?, at?_eq l i]
theorem setAt_eq {α : Type} : ∀ (l : List α) (i : Nat) (x : α), setAt l i x = l.set i x
 | [], i, x => by simp [setAt]
 | a :: l, 0, x => by simp [setAt]
 | a :: l, i + 1, x => by simp [setAt, setAt_eq l i x]
theorem RepL.mono {m m' : Mem} (hm : m.le m') {ι : List Blk} {cs : List V} {vs : List Value} (h : RepL m ι cs vs) : RepL m' ι cs vs := ⟨h.1, fun i x y a b => (h.2 i x y a b).mono hm⟩
theorem RepL.nil (m : Mem) (ι : List Blk) : RepL m ι [] [] := ⟨rfl, fun i x y h => by simp at h⟩
theorem RepL.cons {m : Mem} {ι : List Blk} {c : V} {x : Value} {cs : List V} {vs : List Value} (h : Rep m ι c x) (t : RepL m ι cs vs) : RepL m ι (c :: cs) (x :: vs) :=
 ⟨by simp [t.1], fun i a b ha hb => by
  cases i with
  | zero => simp at ha hb; subst ha; subst hb; exact h
  | succ i => exact t.2 i a b (by simpa using ha) (by simpa using hb)⟩
theorem RepL.append {m : Mem} {ι : List Blk} {cs ds : List V} {vs us : List Value} (h : RepL m ι cs vs) (k : RepL m ι ds us) : RepL m ι (cs ++ ds) (vs ++ us) :=
 ⟨by simp [h.1, k.1], fun i a b ha hb => by
  rcases Nat.lt_or_ge i cs.length with hi | hi
  ·rw [List.getElem?_append_left hi] at ha
   rw [List.getElem?_append_left (h.1 ▸ hi)] at hb
   exact h.2 i a b ha hb
  ·rw [List.getElem?_append_right hi] at ha
   rw [List.getElem?_append_right (h.1 ▸ hi)] at hb
   exact k.2 _ a b ha (h.1 ▸ hb)⟩
theorem RepL.drop {m : Mem} {ι : List Blk} {cs : List V} {vs : List Value} (h : RepL m ι cs vs) (n : Nat) : RepL m ι (cs.drop n) (vs.drop n) :=
 ⟨by simp [h.1], fun i a b ha hb => h.2 (n + i) a b (by simpa using ha) (by simpa using hb)⟩
theorem RepL.take {m : Mem} {ι : List Blk} {cs : List V} {vs : List Value} (h : RepL m ι cs vs) (n : Nat) : RepL m ι (cs.take n) (vs.take n) :=
 ⟨by simp [h.1], fun i a b ha hb => by
  rw [List.getElem?_take] at ha hb
  split at ha
  ·rename_i hi
   rw [if_pos hi] at hb
   exact h.2 i a b ha hb
  ·cases ha⟩
theorem RepL.ext {m : Mem} {ι κ : List Blk} {cs : List V} {vs : List Value} (h : RepL m ι cs vs) (e : ∀ (i : Nat) β, ι[i]? = some β → κ[i]? = some β) : RepL m κ cs vs :=
 ⟨h.1, fun i a b ha hb => (h.2 i a b ha hb).ext e⟩
theorem RepL.get {m : Mem} {ι : List Blk} {cs : List V} {vs : List Value} (h : RepL m ι cs vs) {i : Nat} {c : V} (hi : cs[i]? = some c) : ∃ x, vs[i]? = some x ∧ Rep m ι c x := by
 have hl : i < cs.length := (List.getElem?_eq_some_iff.1 hi).1
 have : i < vs.length := h.1 ▸ hl
 exact ⟨vs[i], List.getElem?_eq_getElem this, h.2 i c _ hi (List.getElem?_eq_getElem this)⟩
theorem RepL.map {m : Mem} {ι : List Blk} {α : Type} (f : α → V) (g : α → Value) (l : List α) (h : ∀ a ∈ l, Rep m ι (f a) (g a)) : RepL m ι (l.map f) (l.map g) :=
 ⟨by simp, fun i a b ha hb => by
  simp only [List.getElem?_map, Option.map_eq_some_iff] at ha hb
  obtain ⟨p, hp, rfl⟩ := ha
  obtain ⟨q, hq, rfl⟩ := hb
  rw [hp] at hq
  obtain rfl := Option.some.inj hq
  exact h _ (List.mem_of_getElem? hp)⟩
theorem Rep.aggL {m : Mem} {ι : List Blk} {cs : List V} {vs : List Value} (h : RepL m ι cs vs) : Rep m ι (.agg cs) (.agg vs.toArray) := .agg ι cs vs h.1 h.2
theorem Rep.tupL {m : Mem} {ι : List Blk} {cs : List V} {vs : List Value} (h : RepL m ι cs vs) : Rep m ι (.tup cs) (.tuple vs.toArray) := .tup ι cs vs h.1 h.2
theorem Rep.agg_inv {m : Mem} {ι : List Blk} {cs : List V} {x : Value} (h : Rep m ι (.agg cs) x) : ∃ vs : List Value, x = .agg vs.toArray ∧ RepL m ι cs vs := by
 cases h with | agg _ _ vs hl hr => exact ⟨vs, rfl, hl, hr⟩
theorem Rep.tup_inv {m : Mem} {ι : List Blk} {cs : List V} {x : Value} (h : Rep m ι (.tup cs) x) : ∃ vs : List Value, x = .tuple vs.toArray ∧ RepL m ι cs vs := by
 cases h with | tup _ _ vs hl hr => exact ⟨vs, rfl, hl, hr⟩
theorem Rep.int_inv {m : Mem} {ι : List Blk} {k : IntKind} {n : Int} {x : Value} (h : Rep m ι (.int k n) x) : x = .int k n ∧ k.wrap n = n := by
 cases h with | int _ _ _ h => exact ⟨rfl, h⟩
theorem Rep.bool_inv {m : Mem} {ι : List Blk} {b : Bool} {x : Value} (h : Rep m ι (.bool b) x) : x = .bool b := by cases h; rfl
theorem Rep.str_inv {m : Mem} {ι : List Blk} {s : ByteArray} {x : Value} (h : Rep m ι (.str s) x) : x = .string s ∧ s.size ≤ 9223372036854775807 := by
 cases h with | str _ _ h => exact ⟨rfl, h⟩
theorem Rep.cells {m : Mem} {ι : List Blk} {v : V} {x : Value} (h : Rep m ι v x) {cs : List V} (hc : cellsV v = some cs) : RepL m ι cs x.cells.toList := by
 cases h <;> simp only [cellsV, Option.some.injEq, reduceCtorEq] at hc <;> subst hc
 case agg cs vs hl hr => exact ⟨by simpa [Value.cells] using hl, fun i a b ha hb => hr i a b ha (by simpa [Value.cells] using hb)⟩
 all_goals (refine RepL.cons ?_ (RepL.nil m ι); constructor <;> assumption)
theorem leaf_rep (m : Mem) (ι : List Blk) (v : Value) (h : leafOk v = true) : Rep m ι (leaf v) v := by
 unfold leaf
 split
 ·exact .int ι _ _ (by simpa [leafOk] using h)
 ·exact .bool ι _
 ·exact .str ι _ (Nat.le_of_ble_eq_true h)
 ·exact .nilFn ι
 ·exact .nilPtr ι
 ·exact .row ι true [] none 0 0 0 0 (fun _ _ => undef) (fun _ => rfl) (Nat.le_refl _) (by simp) (by simp) (by simp) (by simp) (by simp)
 ·exact .nilMap ι
 ·exact .nilI ι
 ·exact .undef ι _
theorem leafL_rep (m : Mem) (ι : List Blk) (l : List Value) (h : l.all leafOk = true) : RepL m ι (l.map leaf) l :=
 ⟨by simp, fun i a b ha hb => by
  simp only [List.getElem?_map, Option.map_eq_some_iff] at ha
  obtain ⟨p, hp, rfl⟩ := ha
  rw [hp] at hb
  obtain rfl := Option.some.inj hb
  exact leaf_rep m ι p (List.all_eq_true.1 h p (List.mem_of_getElem? hp))⟩
theorem ofC_rep (m : Mem) (ι : List Blk) (v : Value) (h : cOk v = true) : Rep m ι (ofC v) v := by
 cases v with
 | agg cs => exact Rep.aggL (leafL_rep m ι cs.toList h)
 | tuple cs => exact Rep.tupL (leafL_rep m ι cs.toList h)
 | _ => simp only [ofC, cOk] at h ⊢; exact leaf_rep m ι _ h
structure St (w0 : Base) (m0 : Mem) (N : Nat) (m : Mem) (ι : List Blk) (e : Env) (s : List O) (a : Act) (w : World) : Prop where
 defers : a.defers = []
 size : a.tmps.size = N
 env : ∀ t, Rep m ι (e.get t) (a.tmps.getD t undef)
 mle : m0.le m
 glo : Gk m
 mok : m.ok w
 fresh : ∀ b o x, m b o = some x → m0 b o = none → w0.mine b
 below : w0.below w
 len : ι.length = s.length
 obj : ∀ (i : Nat) o β, s[i]? = some o → ι[i]? = some β → Ob m ι w β o
 own : ∀ (i : Nat) o β, s[i]? = some o → ι[i]? = some β → o ≠ .gone → w0.mine β.blk ∧ β.blk < w.heap.size
 inj : ∀ (i j : Nat) o p β γ, s[i]? = some o → s[j]? = some p → ι[i]? = some β → ι[j]? = some γ → o ≠ .gone → p ≠ .gone → i ≠ j → β.blk ≠ γ.blk
 pin : ∀ (i : Nat) β, w0.pin[i]? = some β → ι[i]? = some β
theorem Env.get_set : ∀ (e : Env) (n : Nat) (v : V) (k : Nat), (e.set n v).get k = if k = n then v else e.get k
 | [], n, v, k => by
  simp only [Env.set, Env.get]
  cases h : Nat.beq n k
  ·have : k ≠ n := fun q => by subst q; simp at h
   rw [if_neg this]
  ·have := Nat.eq_of_beq_eq_true h
   rw [if_pos this.symm]
 | (j, u) :: e, n, v, k => by
  simp only [Env.set, Env.get]
  cases h : Nat.beq j n
  ·simp only [Env.get]
   cases h2 : Nat.beq j k
   ·exact Env.get_set e n v k
   ·have := Nat.eq_of_beq_eq_true h2
    subst this
    have : j ≠ n := fun q => by subst q; simp at h
    simp only [if_neg this]
  ·have := Nat.eq_of_beq_eq_true h
   subst this
   simp only [Env.get]
   cases h2 : Nat.beq j k
   ·have : k ≠ j := fun q => by subst q; simp at h2
    simp only [if_neg this]
   ·have := Nat.eq_of_beq_eq_true h2
    simp only [if_pos this.symm]
section
variable {w0 : Base} {m0 : Mem} {N : Nat} {m : Mem} {ι : List Blk} {e : Env} {s : List O} {a : Act} {w : World}
theorem St.set (h : St w0 m0 N m ι e s a w) {d : Nat} (hd : d < N) {v : V} {x : Value} (r : Rep m ι v x) : St w0 m0 N m ι (e.set d v) s { a with tmps := a.tmps.setIfInBounds d x } w :=
 {h with
  size := by simpa using h.size
  env := fun t => by
   rw [Env.get_set]
   by_cases q : t = d
   ·subst q
    rw [if_pos rfl]
    have : (a.tmps.setIfInBounds t x).getD t undef = x := by simp [Array.getD, h.size, hd]
    rw [this]
    exact r
   ·rw [if_neg q]
    have : (a.tmps.setIfInBounds d x).getD t undef = a.tmps.getD t undef := by
     simp only [Array.getD_eq_getD_getElem?]
     rw [Array.getElem?_setIfInBounds_ne (fun z => q z.symm)]
    rw [this]
    exact h.env t }
theorem St.put (h : St w0 m0 N m ι e s a w) {d : Option Tmp} (hd : ∀ t, d = some t → t < N) {v : V} {x : Value} (r : Rep m ι v x) : St w0 m0 N m ι (e.put d v) s (a.put d x) w := by
 cases d with
 | none => exact h
 | some t => exact h.set (hd t rfl) r
theorem St.say (h : St w0 m0 N m ι e s a w) {t : Nat} {v : V} (r : Rep m ι v (a.tmps.getD t undef)) : St w0 m0 N m ι (e.set t v) s a w :=
 {h with
  env := fun k => by
   rw [Env.get_set]
   by_cases q : k = t
   ·subst q
    rw [if_pos rfl]
    exact r
   ·rw [if_neg q]
    exact h.env k }
theorem RepM.move {m m' : Mem} {ι κ : List Blk} {es : List (Nat × V × V)} {ms : List MapEntry} (h : RepM m ι es ms) (k : ∀ v x, Rep m ι v x → Rep m' κ v x) : RepM m' κ es ms := ⟨h.1, fun i x y hx hy => ⟨(h.2 i x y hx hy).1, k _ _ (h.2 i x y hx hy).2.1, k _ _ (h.2 i x y hx hy).2.2⟩⟩
theorem Ob.map_move {m m' : Mem} {ι κ : List Blk} {w w' : World} {β : Blk} {ck : Nat} {es : List (Nat × V × V)} (h : Ob m ι w β (.map ck es)) (hh : w'.heap[β.blk]? = w.heap[β.blk]?) (k : ∀ v x, Rep m ι v x → Rep m' κ v x) : Ob m' κ w' β (.map ck es) := by
 obtain ⟨ms, h1, h2, h3⟩ := h
 exact ⟨ms, hh ▸ h1, h2.move k, h3⟩
theorem Ob.it_move {m m' : Mem} {ι κ : List Blk} {w w' : World} {β : Blk} {mid a b : Nat} {c : List Nat} (h : Ob m ι w β (.it mid a b c)) (hh : w'.heap[β.blk]? = w.heap[β.blk]?) (k : ∀ (i : Nat) γ, ι[i]? = some γ → κ[i]? = some γ) : Ob m' κ w' β (.it mid a b c) := by
 obtain ⟨βm, h1, h2, h3⟩ := h
 exact ⟨βm, hh ▸ h1, k _ _ h2, h3⟩
theorem St.evs (h : St w0 m0 N m ι e s a w) {x : Operand} (hx : ∀ v, x = .const v → cOk v = true) : Rep m ι (Ab.ev e x) (a.eval x) := by
 cases x with
 | tmp t => exact h.env t
 | const v => exact ofC_rep m ι v (hx v rfl)
 | global g => exact .undef ι _
 | func f =>
  exact Rep.fn ι f [] [] [] [] rfl rfl (by simp) (by simp)
end
end Go.Proofs.YtcbknemdidehlaaGreatDoor.Ab
namespace Go.Proofs.YtcbknemdidehlaaGreatDoor.Ab
open Go.RowKit
set_option linter.unusedVariables false
set_option linter.unusedSimpArgs false
def O.lim (β : Blk) : O → Nat → Prop
 | .box _ cs, o => o < cs.length
 | .arr _ sz els, o => o < els.length * sz
 | _, _ => False
open Classical in
noncomputable def addM (m : Mem) (w : World) (s : List O) (ι : List Blk) (S : List Nat) : Mem := fun b o =>
 if (m b o).isSome then m b o else if ∃ (i : Nat) (ob : O) (β : Blk), i ∈ S ∧ s[i]? = some ob ∧ ι[i]? = some β ∧ β.blk = b ∧ ob.lim β o then w.cell? ⟨b, o, none⟩ else none
theorem addM_le (m : Mem) (w : World) (s : List O) (ι : List Blk) (S : List Nat) : m.le (addM m w s ι S) := fun b o v h => by simp [addM, h]
theorem addM_some {m : Mem} {w : World} {s : List O} {ι : List Blk} {S : List Nat} {b o : Nat} {v : Value} (h : addM m w s ι S b o = some v) :
  m b o = some v ∨ (m b o = none ∧ w.cell? ⟨b, o, none⟩ = some v ∧ ∃ (i : Nat) (ob : O) (β : Blk), i ∈ S ∧ s[i]? = some ob ∧ ι[i]? = some β ∧ β.blk = b ∧ ob.lim β o) := by
 unfold addM at h
 split at h
 ·exact .inl h
 ·rename_i hn
  split at h
  ·rename_i hx
   exact .inr ⟨by simpa using hn, h, hx⟩
  ·cases h
theorem addM_none {m : Mem} {w : World} {s : List O} {ι : List Blk} {S : List Nat} {b o : Nat} (h : m b o = none)
  (hx : ∀ (i : Nat) (ob : O) (β : Blk), i ∈ S → s[i]? = some ob → ι[i]? = some β → β.blk = b → ¬ ob.lim β o) : addM m w s ι S b o = none := by
 unfold addM
 rw [h]
 simp only [Option.isSome_none, Bool.false_eq_true, if_false]
 rw [if_neg]
 rintro ⟨i, ob, β, h1, h2, h3, h4, h5⟩
 exact hx i ob β h1 h2 h3 h4 h5
theorem addM_get {m : Mem} {w : World} {s : List O} {ι : List Blk} {S : List Nat} (hm : m.ok w) {i : Nat} {ob : O} {β : Blk} (hi : i ∈ S) (hs : s[i]? = some ob) (hι : ι[i]? = some β) {o : Nat} (hl : ob.lim β o) {x : Value}
  (hc : w.cell? ⟨β.blk, o, none⟩ = some x) : addM m w s ι S β.blk o = some x := by
 unfold addM
 split
 ·rename_i h
  obtain ⟨v, hv⟩ := Option.isSome_iff_exists.1 h
  have := hm _ _ _ hv
  rw [hc] at this
  rw [hv, Option.some.inj this]
 ·rw [if_pos ⟨i, ob, β, hi, hs, hι, rfl, hl⟩, hc]
theorem O.ro_ro (o : O) : o.ro.ro = o.ro := by cases o <;> rfl
theorem O.ro_gone {o : O} : o.ro ≠ .gone ↔ o ≠ .gone := by cases o <;> simp [O.ro]
theorem mark_get : ∀ (S : List Nat) (s : List O) (i : Nat), (mark s S)[i]? = (s[i]?).map fun o => if i ∈ S then o.ro else o
 | [], s, i => by simp [mark]
 | j :: S, s, i => by
  rw [mark, mark_get S, at?_eq]
  cases h : s[j]? with
  | none =>
   by_cases q : i = j
   ·subst q; simp [h]
   ·simp [q]
  | some o =>
   simp only [setAt_eq, List.getElem?_set]
   have hj : j < s.length := (List.getElem?_eq_some_iff.1 h).1
   by_cases q : i = j
   ·subst q
    have e1 : s[i] = o := (List.getElem?_eq_some_iff.1 h).2
    simp [hj, e1, O.ro_ro]
   ·have q' : ¬ j = i := fun z => q z.symm
    simp [q, q']
theorem mark_length : ∀ (S : List Nat) (s : List O), (mark s S).length = s.length
 | [], s => rfl
 | j :: S, s => by
  rw [mark, mark_length S]
  split <;> simp [setAt_eq]
theorem cell_heap {w : World} {b : Nat} {vs : List Value} {e : TypeId} {fr : Nat × Nat} (h : w.heap[b]? = some (.cells vs.toArray e fr)) (o : Nat) : w.cell? ⟨b, o, none⟩ = vs[o]? := by
 simp [World.cell?, h]
section
variable {w0 : Base} {m0 : Mem} {N : Nat} {m : Mem} {ι : List Blk} {e : Env} {s : List O} {a : Act} {w : World}
theorem St.frz1 (h : St w0 m0 N m ι e s a w) (S : List Nat) : ∀ (n : Nat) (v : V) (x : Value), Rep m ι v x → (∀ i ∈ idl n s v, i ∈ S) → Rep (addM m w s ι S) [] (frz n s v) x
 | 0, _, x, _, _ => .undef _ _
 | n + 1, v, x, hr, hS => by
  have ih := St.frz1 h S n
  have hle := addM_le m w s ι S
  cases hr with
  | undef => exact .undef _ _
  | int _ k z hz => exact .int _ k z hz
  | bool _ b => exact .bool _ b
  | str _ b hb => exact .str _ b hb
  | nilFn => exact .nilFn _
  | nilPtr => exact .nilPtr _
  | nilMap => exact .nilMap _
  | nilI => exact .nilI _
  | fn _ f p q vp vq hp hq rp rq =>
   refine .fn _ f _ _ vp vq (by simp [hp]) (by simp [hq]) ?_ ?_
   ·intro i c y hc hy
    simp only [List.getElem?_map, Option.map_eq_some_iff] at hc
    obtain ⟨c', hc', rfl⟩ := hc
    refine ih c' y (rp i c' y hc' hy) fun j hj => hS j ?_
    simp only [idl, List.mem_append, List.mem_flatMap]
    exact .inl ⟨c', List.mem_of_getElem? hc', hj⟩
   ·intro i c y hc hy
    simp only [List.getElem?_map, Option.map_eq_some_iff] at hc
    obtain ⟨c', hc', rfl⟩ := hc
    refine ih c' y (rq i c' y hc' hy) fun j hj => hS j ?_
    simp only [idl, List.mem_append, List.mem_flatMap]
    exact .inr ⟨c', List.mem_of_getElem? hc', hj⟩
  | iface _ t v x hv => exact .iface _ t _ x (ih v x hv hS)
  | ptr _ id off β hβ =>
   simp only [frz, at?_eq]
   split
   ·rename_i wr cs hs
    have hid : id ∈ S := hS id (by simp [idl])
    obtain ⟨vs, et, fr, hh, hcs, _, _⟩ := h.obj id _ β hs hβ
    refine .elem _ _ β.blk off (fun j => vs.getD (off + j) undef) ?_ ?_
    ·intro j c hj
     simp only [List.getElem?_map, Option.map_eq_some_iff, List.getElem?_drop] at hj
     obtain ⟨c', hc', rfl⟩ := hj
     obtain ⟨y, hy, _⟩ := hcs.get hc'
     refine addM_get h.mok hid hs hβ (show off + j < cs.length from (List.getElem?_eq_some_iff.1 hc').1) ?_
     rw [cell_heap hh, hy, List.getD_eq_getElem?_getD, hy, Option.getD_some]
    ·intro j c hj
     simp only [List.getElem?_map, Option.map_eq_some_iff, List.getElem?_drop] at hj
     obtain ⟨c', hc', rfl⟩ := hj
     obtain ⟨y, hy, ry⟩ := hcs.get hc'
     rw [List.getD_eq_getElem?_getD, hy, Option.getD_some]
     refine ih c' y ry fun k hk => hS k ?_
     simp only [idl, at?_eq, hs, List.mem_cons, List.mem_flatMap]
     exact .inr ⟨c', List.mem_of_getElem? (i := j) (by simpa using hc'), hk⟩
   ·exact .undef _ _
  | eptr _ id i off β hβ =>
   simp only [frz, at?_eq]
   split
   ·rename_i wr sz els hs
    have hid : id ∈ S := hS id (by simp [idl])
    obtain ⟨vs, et, fr, rfl, hh, hvl, hcap, hn, hel, hsz, hcs, _, _, _⟩ := h.obj id _ β hs hβ
    refine .elem _ _ β.blk (i * β.sz + off) (fun j => vs.getD (i * β.sz + (off + j)) undef) ?_ ?_
    ·intro j c hj
     simp only [List.getElem?_drop] at hj
     cases hi : els[i]? with
     | none => simp [hi] at hj
     | some el =>
      simp only [hi, Option.getD_some] at hj
      obtain ⟨y, hy, _⟩ := hcs i (off + j) el c hi hj
      have hlt : off + j < el.length := (List.getElem?_eq_some_iff.1 hj).1
      have hle2 : i < els.length := (List.getElem?_eq_some_iff.1 hi).1
      have hes := hsz el (List.mem_of_getElem? hi)
      have e1 : i * β.sz + off + j = i * β.sz + (off + j) := by omega
      rw [e1]
      refine addM_get h.mok hid hs hβ (show i * β.sz + (off + j) < els.length * β.sz from ?_) ?_
      ·have : (i + 1) * β.sz ≤ els.length * β.sz := Nat.mul_le_mul_right _ hle2
       rw [Nat.add_mul, Nat.one_mul] at this
       omega
      ·rw [cell_heap hh, hy, List.getD_eq_getElem?_getD, hy, Option.getD_some]
    ·intro j c hj
     simp only [List.getElem?_drop] at hj
     cases hi : els[i]? with
     | none => simp [hi] at hj
     | some el =>
      simp only [hi, Option.getD_some] at hj
      obtain ⟨y, hy, ry⟩ := hcs i (off + j) el c hi hj
      rw [List.getD_eq_getElem?_getD, hy, Option.getD_some]
      exact ry.mono hle
   ·exact .undef _ _
  | elem _ cs b o g hm hc => exact (Rep.elem _ cs b o g hm hc).mono hle
  | row _ x els p cap sz b o g hx hc hl hs ha hm hr => exact (Rep.row [] false els p cap sz b o g (by simp) hc hl hs ha hm hr).mono hle
  | sl _ id off len p cap β hβ hl hc hn hb ha =>
   simp only [frz, at?_eq]
   split
   ·rename_i wr sz els hs
    have hid : id ∈ S := hS id (by simp [idl])
    obtain ⟨vs, et, fr, rfl, hh, hvl, hcap, hnn, hel, hsz, hcs, _, _, _⟩ := h.obj id _ β hs hβ
    have hlen : ((els.drop off).take len).length = len := by simp; omega
    have key := Rep.row (m := addM m w s ι S) [] false ((els.drop off).take len) p cap β.sz β.blk (off * β.sz) (fun i j => vs.getD ((off + i) * β.sz + j) undef)
     (by simp) (by omega) (by omega) (fun el he => hsz el (List.mem_of_mem_drop (List.mem_of_mem_take he)))
     (fun hne => ha (fun q => hne (List.eq_nil_of_length_eq_zero (by omega)))) ?_ ?_
    ·rwa [hlen] at key
    ·intro i j el c hi hj
     rw [List.getElem?_take] at hi
     split at hi
     ·rename_i hil
      rw [List.getElem?_drop] at hi
      obtain ⟨y, hy, _⟩ := hcs (off + i) j el c hi hj
      have hlt : j < el.length := (List.getElem?_eq_some_iff.1 hj).1
      have hle2 : off + i < els.length := (List.getElem?_eq_some_iff.1 hi).1
      have hes := hsz el (List.mem_of_getElem? hi)
      have e1 : off * β.sz + i * β.sz + j = (off + i) * β.sz + j := by rw [Nat.add_mul]
      rw [e1]
      refine addM_get h.mok hid hs hβ (show (off + i) * β.sz + j < els.length * β.sz from ?_) ?_
      ·have : (off + i + 1) * β.sz ≤ els.length * β.sz := Nat.mul_le_mul_right _ hle2
       rw [Nat.add_mul _ 1, Nat.one_mul] at this
       omega
      ·rw [cell_heap hh, hy, List.getD_eq_getElem?_getD, hy, Option.getD_some]
     ·cases hi
    ·intro i j el c hi hj
     rw [List.getElem?_take] at hi
     split at hi
     ·rw [List.getElem?_drop] at hi
      obtain ⟨y, hy, ry⟩ := hcs (off + i) j el c hi hj
      rw [List.getD_eq_getElem?_getD, hy, Option.getD_some]
      exact ry.mono hle
     ·cases hi
   ·exact .undef _ _
  | map _ id β hβ => exact .undef _ _
  | agg _ cs vs hl hr =>
   refine Rep.aggL ⟨by simp [hl], fun i c y hc hy => ?_⟩
   simp only [List.getElem?_map, Option.map_eq_some_iff] at hc
   obtain ⟨c', hc', rfl⟩ := hc
   refine ih c' y (hr i c' y hc' hy) fun j hj => hS j ?_
   simp only [idl, List.mem_flatMap]
   exact ⟨c', List.mem_of_getElem? hc', hj⟩
  | tup _ cs vs hl hr =>
   refine Rep.tupL ⟨by simp [hl], fun i c y hc hy => ?_⟩
   simp only [List.getElem?_map, Option.map_eq_some_iff] at hc
   obtain ⟨c', hc', rfl⟩ := hc
   refine ih c' y (hr i c' y hc' hy) fun j hj => hS j ?_
   simp only [idl, List.mem_flatMap]
   exact ⟨c', List.mem_of_getElem? hc', hj⟩
theorem Ob.ne_of_own {m : Mem} {o : O} {β : Blk} {k : Nat} (h : o.lim β k) : o ≠ .gone := by rintro rfl; exact h
theorem St.mark (h : St w0 m0 N m ι e s a w) (S : List Nat) : St w0 m0 N (addM m w s ι S) ι e (Ab.mark s S) a w :=
 have hle := addM_le m w s ι S
 {defers := h.defers
  size := h.size
  env := fun t => (h.env t).mono hle
  mle := h.mle.trans hle
  glo := h.glo.mono hle
  mok := fun b o v hv => by
   rcases addM_some hv with q | ⟨_, q, _⟩
   ·exact h.mok _ _ _ q
   ·exact q
  fresh := fun b o x hx h0 => by
   rcases addM_some hx with q | ⟨_, q, i, ob, β, hi, hs, hι, hb, hl⟩
   ·exact h.fresh _ _ _ q h0
   ·exact hb ▸ (h.own i ob β hs hι (Ob.ne_of_own (m := m) hl)).1
  below := h.below
  len := by rw [h.len, mark_length]
  obj := fun i o β ho hβ => by
   rw [mark_get, Option.map_eq_some_iff] at ho
   obtain ⟨p, hp, rfl⟩ := ho
   have hob := h.obj i p β hp hβ
   have other : ∀ k, (i ∈ S → ¬ p.lim β k) → p ≠ .gone → m β.blk k = none → addM m w s ι S β.blk k = none := by
    intro k hk hg hn
    refine addM_none hn fun j ob γ hj hs hι hb hl => ?_
    by_cases q : j = i
    ·subst q
     rw [hp] at hs
     obtain rfl := Option.some.inj hs
     rw [hβ] at hι
     obtain rfl := Option.some.inj hι
     exact hk hj hl
    ·exact h.inj j i ob p γ β hs hp hι hβ (Ob.ne_of_own (m := m) hl) hg q hb
   cases p with
   | gone => split <;> exact trivial
   | box wr cs =>
    obtain ⟨vs, et, fr, h1, h2, h3, h4⟩ := hob
    by_cases q : i ∈ S
    ·rw [if_pos q]
     exact ⟨vs, et, fr, h1, h2.mono hle, h3, by simp⟩
    ·rw [if_neg q]
     exact ⟨vs, et, fr, h1, h2.mono hle, h3, fun hw k => other k (fun z => absurd z q) (by simp) (h4 hw k)⟩
   | arr wr sz els =>
    obtain ⟨vs, et, fr, rfl, h1, h2, h3, h4, h5, h6, h7, h8, h9, h10⟩ := hob
    by_cases q : i ∈ S
    ·rw [if_pos q]
     exact ⟨vs, et, fr, rfl, h1, h2, h3, h4, h5, h6, fun x y el c hx hy => let ⟨v, hv, rv⟩ := h7 x y el c hx hy; ⟨v, hv, rv.mono hle⟩, h8,
      fun k hk => other k (fun _ hl => by simp only [O.lim] at hl; omega) (by simp) (h9 k hk), by simp⟩
    ·rw [if_neg q]
     exact ⟨vs, et, fr, rfl, h1, h2, h3, h4, h5, h6, fun x y el c hx hy => let ⟨v, hv, rv⟩ := h7 x y el c hx hy; ⟨v, hv, rv.mono hle⟩, h8,
      fun k hk => other k (fun z => absurd z q) (by simp) (h9 k hk), fun hw k => other k (fun z => absurd z q) (by simp) (h10 hw k)⟩
   | map ck es => split <;> exact hob.map_move rfl fun v x r => r.mono hle
   | it a b c d => split <;> exact hob.it_move rfl fun _ _ q => q
   | raw x => split <;> exact hob
  own := fun i o β ho hβ hg => by
   rw [mark_get, Option.map_eq_some_iff] at ho
   obtain ⟨p, hp, rfl⟩ := ho
   exact h.own i p β hp hβ (fun z => hg (by subst z; split <;> rfl))
  pin := h.pin
  inj := fun i j o p β γ ho hp hβ hγ hgo hgp hne => by
   rw [mark_get, Option.map_eq_some_iff] at ho hp
   obtain ⟨o', ho', rfl⟩ := ho
   obtain ⟨p', hp', rfl⟩ := hp
   exact h.inj i j o' p' β γ ho' hp' hβ hγ (fun z => hgo (by subst z; split <;> rfl)) (fun z => hgp (by subst z; split <;> rfl)) hne }
theorem St.freeze (h : St w0 m0 N m ι e s a w) {vs : List V} {xs : List Value} (hr : RepL m ι vs xs) :
  ∃ m', m.le m' ∧ St w0 m0 N m' ι e (Ab.mark s (vs.flatMap (idl 8 s))) a w ∧ RepL m' [] (vs.map (frz 8 s)) xs := by
 refine ⟨_, addM_le m w s ι _, h.mark _, ⟨by simp [hr.1], fun i c y hc hy => ?_⟩⟩
 simp only [List.getElem?_map, Option.map_eq_some_iff] at hc
 obtain ⟨c', hc', rfl⟩ := hc
 exact h.frz1 _ 8 c' y (hr.2 i c' y hc' hy) fun j hj => List.mem_flatMap.2 ⟨c', List.mem_of_getElem? hc', hj⟩
theorem Mem.ok.lt {m : Mem} {w : World} (h : m.ok w) {b o : Nat} {v : Value} (hv : m b o = some v) : b < w.heap.size := World.block_lt_of_cell? w ⟨b, o, none⟩ (h b o v hv)
theorem St.grow (h : St w0 m0 N m ι e s a w) {w' : World} {m' : Mem} (hm : m.le m') (ok : m'.ok w') (hb : Below w.heap.size w w') (hf : ∀ b o x, m' b o = some x → m b o = none → w.heap.size ≤ b) : St w0 m0 N m' ι e s a w' :=
 {defers := h.defers
  size := h.size
  env := fun t => (h.env t).mono hm
  mle := h.mle.trans hm
  glo := h.glo.mono hm
  mok := ok
  fresh := fun b o x hx h0 => by
   cases q : m b o with
   | none => exact .inl (Nat.le_trans h.below.size (hf b o x hx q))
   | some y => exact h.fresh b o y q h0
  below := h.below.on hb
  len := h.len
  obj := fun i o β ho hβ => by
   have hob := h.obj i o β ho hβ
   have none_ : ∀ k, o ≠ .gone → m β.blk k = none → m' β.blk k = none := fun k hg hn => by
    cases q : m' β.blk k with
    | none => rfl
    | some y =>
     have := hf _ _ _ q hn
     have := (h.own i o β ho hβ hg).2
     omega
   cases o with
   | gone => exact trivial
   | box wr cs =>
    obtain ⟨vs, et, fr, h1, h2, h3, h4⟩ := hob
    exact ⟨vs, et, fr, by rw [hb.block _ (h.own i _ β ho hβ (by simp)).2]; exact h1, h2.mono hm, h3, fun hw k => none_ k (by simp) (h4 hw k)⟩
   | arr wr sz els =>
    obtain ⟨vs, et, fr, rfl, h1, h2, h3, h4, h5, h6, h7, h8, h9, h10⟩ := hob
    exact ⟨vs, et, fr, rfl, by rw [hb.block _ (h.own i _ β ho hβ (by simp)).2]; exact h1, h2, h3, h4, h5, h6, fun x y el c hx hy => let ⟨v, hv, rv⟩ := h7 x y el c hx hy; ⟨v, hv, rv.mono hm⟩, h8,
      fun k hk => none_ k (by simp) (h9 k hk), fun hw k => none_ k (by simp) (h10 hw k)⟩
   | map ck es => exact hob.map_move (hb.block _ (h.own i _ β ho hβ (by simp)).2) fun v x r => r.mono hm
   | it a b c d => exact hob.it_move (hb.block _ (h.own i _ β ho hβ (by simp)).2) fun _ _ q => q
   | raw x => exact ⟨(hb.block _ (h.own i _ β ho hβ (by simp)).2).trans hob.1, hob.2⟩
  own := fun i o β ho hβ hg => ⟨(h.own i o β ho hβ hg).1, Nat.lt_of_lt_of_le (h.own i o β ho hβ hg).2 hb.size⟩
  pin := h.pin
  inj := h.inj }
theorem St.new (h : St w0 m0 N m ι e s a w) {w' : World} (hb : Below w.heap.size w w') (hs : w.heap.size < w'.heap.size) {β : Blk} (hβ : β.blk = w.heap.size) {o : O} (ho : Ob m (ι ++ [β]) w' β o) :
  St w0 m0 N m (ι ++ [β]) e (s ++ [o]) a w' :=
 have ext : ∀ (i : Nat) γ, ι[i]? = some γ → (ι ++ [β])[i]? = some γ := fun i γ hi => by
  rw [List.getElem?_append_left (List.getElem?_eq_some_iff.1 hi).1]; exact hi
 have mok' : m.ok w' := fun b o v hv => by
  rw [World.cell?_of_block (w := w) (a := ⟨b, o, none⟩) (hb.block b (h.mok.lt hv))]
  exact h.mok b o v hv
 have g := h.grow (Mem.le.refl m) mok' hb (fun b o x hx hn => by rw [hx] at hn; cases hn)
 {defers := h.defers
  size := h.size
  env := fun t => (h.env t).ext ext
  mle := h.mle
  glo := h.glo
  mok := mok'
  fresh := h.fresh
  below := g.below
  len := by simp [h.len]
  obj := fun i p γ hp hγ => by
   rcases Nat.lt_or_ge i s.length with hi | hi
   ·rw [List.getElem?_append_left hi] at hp
    rw [List.getElem?_append_left (h.len ▸ hi)] at hγ
    have := g.obj i p γ hp hγ
    cases p with
    | gone => exact trivial
    | box wr cs =>
     obtain ⟨vs, et, fr, h1, h2, h3, h4⟩ := this
     exact ⟨vs, et, fr, h1, h2.ext ext, h3, h4⟩
    | arr wr sz els => exact this
    | map ck es => exact this.map_move rfl fun v x r => r.ext ext
    | it a b c d => exact this.it_move rfl ext
    | raw x => exact this
   ·have : i = s.length := by
     have := (List.getElem?_eq_some_iff.1 hp).1
     simp at this
     omega
    subst this
    rw [List.getElem?_append_right (Nat.le_refl _)] at hp
    rw [List.getElem?_append_right (by rw [h.len]; exact Nat.le_refl _)] at hγ
    simp [h.len] at hp hγ
    subst hp; subst hγ
    exact ho
  own := fun i p γ hp hγ hg => by
   rcases Nat.lt_or_ge i s.length with hi | hi
   ·rw [List.getElem?_append_left hi] at hp
    rw [List.getElem?_append_left (h.len ▸ hi)] at hγ
    exact g.own i p γ hp hγ hg
   ·have : i = s.length := by
     have := (List.getElem?_eq_some_iff.1 hp).1
     simp at this
     omega
    subst this
    rw [List.getElem?_append_right (by rw [h.len]; exact Nat.le_refl _)] at hγ
    simp [h.len] at hγ
    subst hγ
    rw [hβ]
    exact ⟨.inl h.below.size, hs⟩
  pin := fun i γ hi => ext i γ (h.pin i γ hi)
  inj := fun i j p q γ δ hp hq hγ hδ hgp hgq hne => by
   have split_ : ∀ {i : Nat} {p : O} {γ : Blk}, (s ++ [o])[i]? = some p → (ι ++ [β])[i]? = some γ → (s[i]? = some p ∧ ι[i]? = some γ) ∨ (i = s.length ∧ γ = β) := by
    intro i p γ hp hγ
    rcases Nat.lt_or_ge i s.length with hi | hi
    ·rw [List.getElem?_append_left hi] at hp
     rw [List.getElem?_append_left (h.len ▸ hi)] at hγ
     exact .inl ⟨hp, hγ⟩
    ·have : i = s.length := by
      have := (List.getElem?_eq_some_iff.1 hp).1
      simp at this
      omega
     subst this
     rw [List.getElem?_append_right (by rw [h.len]; exact Nat.le_refl _)] at hγ
     simp [h.len] at hγ
     exact .inr ⟨rfl, hγ.symm⟩
   rcases split_ hp hγ with ⟨h1, h2⟩ | ⟨h1, h2⟩ <;> rcases split_ hq hδ with ⟨h3, h4⟩ | ⟨h3, h4⟩
   ·exact h.inj i j p q γ δ h1 h3 h2 h4 hgp hgq hne
   ·have := (h.own i p γ h1 h2 hgp).2
    rw [h4, hβ]
    omega
   ·have := (h.own j q δ h3 h4 hgq).2
    rw [h2, hβ]
    omega
   ·omega }
end
end Go.Proofs.YtcbknemdidehlaaGreatDoor.Ab
namespace Go.Proofs.YtcbknemdidehlaaGreatDoor.Ab
open Go.RowKit
set_option linter.unusedVariables false
set_option linter.unusedSimpArgs false
def wset (w : World) (b : Nat) (o : Obj) : World := { w with heap := w.heap.setIfInBounds b o }
theorem wset_heap (w : World) (b : Nat) (o : Obj) (k : Nat) : (wset w b o).heap[k]? = if k = b then (if b < w.heap.size then some o else none) else w.heap[k]? := by
 simp only [wset, Array.getElem?_setIfInBounds]
 by_cases q : b = k
 ·subst q; simp
 ·rw [if_neg q, if_neg (fun z => q z.symm)]
theorem wset_size (w : World) (b : Nat) (o : Obj) : (wset w b o).heap.size = w.heap.size := by simp [wset]
theorem Base.below.wset {B : Base} {w : World} (h : B.below w) {b : Nat} (hb : B.mine b) (o : Obj) : B.below (Ab.wset w b o) :=
 ⟨h.os, h.tape, h.output, by rw [wset_size]; exact h.size, fun k hk hx => by rw [wset_heap, if_neg (fun q => by subst q; rcases hb with q | q; omega; exact hx q)]; exact h.block k hk hx⟩
theorem wset_wset (w : World) (b : Nat) (o p : Obj) : wset (wset w b o) b p = wset w b p := by
 unfold wset
 congr 1
 apply Array.ext_getElem?
 intro k
 simp only [Array.getElem?_setIfInBounds, Array.size_setIfInBounds]
 split <;> rfl
theorem setCell_wset {w : World} {b o : Nat} {vs : List Value} {e : TypeId} {fr : Nat × Nat} (h : w.heap[b]? = some (.cells vs.toArray e fr)) (v : Value) :
  w.setCell ⟨b, o, none⟩ v = wset w b (.cells (vs.set o v).toArray e fr) := by
 have hb : b < w.heap.size := (Array.getElem?_eq_some_iff.1 h).1
 unfold World.setCell wset
 congr 1
 apply Array.ext_getElem?
 intro k
 simp only [Array.getElem?_modify, Array.getElem?_setIfInBounds]
 by_cases q : b = k
 ·subst q
  rw [if_pos rfl, if_pos rfl, if_pos hb, h]
  simp [Array.setIfInBounds, List.setIfInBounds_toArray]
  exact fun hge => (List.set_eq_of_length_le hge).symm
 ·rw [if_neg q, if_neg q]
theorem frozen_cells {w : World} {b o : Nat} {vs : List Value} {e : TypeId} {fr : Nat × Nat} (h : w.heap[b]? = some (.cells vs.toArray e fr)) (hf : ¬ (fr.1 ≤ o ∧ o < fr.2)) : w.frozen? ⟨b, o, none⟩ = false := by
 obtain ⟨lo, hi⟩ := fr
 simp only [World.frozen?, h, Bool.and_eq_false_iff, decide_eq_false_iff_not]
 simp only at hf
 omega
theorem addr_add (b o n : Nat) : (⟨b, o, none⟩ : Addr).add n = ⟨b, o + n, none⟩ := by
 unfold Addr.add
 split
 ·rename_i h; subst h; rfl
 ·rfl
theorem run_stores {P : Program} {b o : Nat} {e : TypeId} {fr : Nat × Nat} : ∀ (new : List Value) (i : Nat) (vs : List Value) (w : World), w.heap[b]? = some (.cells vs.toArray e fr) → o + i + new.length ≤ vs.length →
  (∀ k, k < vs.length → ¬ (fr.1 ≤ k ∧ k < fr.2)) → (∀ v ∈ new, v.oneCell' = true) →
  (storeCells ⟨b, o, none⟩ new i).run P w = .ok () (wset w b (.cells (vs.take (o + i) ++ new ++ vs.drop (o + i + new.length)).toArray e fr))
 | [], i, vs, w, h, hl, hf, ho => by
  have hb : b < w.heap.size := (Array.getElem?_eq_some_iff.1 h).1
  simp only [storeCells, List.append_nil, List.length_nil, Nat.add_zero, List.take_append_drop, Sem.run_pure]
  congr 1
  have e2 : w.heap.setIfInBounds b (.cells vs.toArray e fr) = w.heap := by
   apply Array.ext_getElem?
   intro k
   simp only [Array.getElem?_setIfInBounds]
   by_cases q : b = k
   ·subst q; rw [if_pos rfl, if_pos hb, h]
   ·rw [if_neg q]
  unfold wset
  rw [e2]
 | v :: new, i, vs, w, h, hl, hf, ho => by
  have hb : b < w.heap.size := (Array.getElem?_eq_some_iff.1 h).1
  simp only [List.length_cons] at hl
  have hi : o + i < vs.length := by omega
  have hc : w.cell? ⟨b, o + i, none⟩ = some vs[o + i] := by rw [cell_heap h, List.getElem?_eq_getElem hi]
  have hz := frozen_cells (o := o + i) h (hf _ hi)
  have h' : (wset w b (.cells (vs.set (o + i) v).toArray e fr)).heap[b]? = some (.cells (vs.set (o + i) v).toArray e fr) := by rw [wset_heap, if_pos rfl, if_pos hb]
  have ih := run_stores (P := P) (o := o) (fr := fr) new (i + 1) (vs.set (o + i) v) _ h' (by simp; omega) (fun k hk => hf k (by simpa using hk)) (fun u hu => ho u (List.mem_cons_of_mem _ hu))
  have e1 : (vs.set (o + i) v).take (o + (i + 1)) ++ new ++ (vs.set (o + i) v).drop (o + (i + 1) + new.length) = vs.take (o + i) ++ v :: new ++ vs.drop (o + i + (new.length + 1)) := by
   have e3 : (vs.set (o + i) v).take (o + (i + 1)) = vs.take (o + i) ++ [v] := by
    rw [show o + (i + 1) = o + i + 1 by omega, List.take_succ_eq_append_getElem (by simpa using hi), List.getElem_set_self, List.take_set, List.set_eq_of_length_le (by rw [List.length_take]; omega)]
   rw [e3, List.drop_set_of_lt (show o + i < o + (i + 1) + new.length by omega), show o + (i + 1) + new.length = o + i + (new.length + 1) by omega]
   simp only [List.append_assoc, List.singleton_append, List.cons_append, List.nil_append]
  rw [e1, wset_wset] at ih
  simp only [storeCells, Sem.run_bind, addr_add, run_store P w _ v _ (ho v List.mem_cons_self), hc, hz, Bool.false_eq_true, if_false, Result.andThen_ok, setCell_wset h]
  exact ih
section
variable {w0 : Base} {m0 : Mem} {N : Nat} {m : Mem} {ι : List Blk} {e : Env} {s : List O} {a : Act} {w : World}
theorem St.drew (h : St w0 m0 N m ι e s a w) (n : Nat) : St w0 m0 N m ι e s a { w with drawn := n } :=
 h.grow (Mem.le.refl m) h.mok ⟨rfl, rfl, rfl, Nat.le_refl _, fun _ _ => rfl⟩ (fun b o x hx hn => by rw [hx] at hn; cases hn)
theorem leafV_one {m : Mem} {ι : List Blk} {v : V} {x : Value} (h : Rep m ι v x) (hv : leafV v = true) : x.oneCell' = true := by
 cases h <;> first | rfl | (simp [leafV] at hv)
theorem RepL.splice {m : Mem} {ι : List Blk} {cs new : List V} {vs us : List Value} (h : RepL m ι cs vs) (k : RepL m ι new us) (off : Nat) :
  RepL m ι (Ab.splice cs off new) (vs.take off ++ us ++ vs.drop (off + us.length)) := by
 unfold Ab.splice
 rw [← k.1]
 exact ((h.take off).append k).append (h.drop _)
theorem St.write (h : St w0 m0 N m ι e s a w) {id : Nat} {o o' : O} {β : Blk} (ho : s[id]? = some o) (hβ : ι[id]? = some β) (hg : o ≠ .gone) (hg' : o' ≠ .gone) (hm : ∀ k, m β.blk k = none) {x : Obj}
  (ob : Ob m ι (wset w β.blk x) β o') : St w0 m0 N m ι e (s.set id o') a (wset w β.blk x) :=
 have hid : id < s.length := (List.getElem?_eq_some_iff.1 ho).1
 have own := h.own id o β ho hβ hg
 have set_ : ∀ {i : Nat} {p : O}, (s.set id o')[i]? = some p → (i = id ∧ p = o') ∨ (i ≠ id ∧ s[i]? = some p) := by
  intro i p hp
  rw [List.getElem?_set] at hp
  by_cases q : id = i
  ·subst q
   simp [hid] at hp
   exact .inl ⟨rfl, hp.symm⟩
  ·rw [if_neg q] at hp
   exact .inr ⟨fun z => q z.symm, hp⟩
 {defers := h.defers
  size := h.size
  env := h.env
  mle := h.mle
  glo := h.glo
  mok := fun b k v hv => by
   have hne : b ≠ β.blk := fun q => by subst q; rw [hm k] at hv; cases hv
   rw [World.cell?_of_block (w := w) (a := ⟨b, k, none⟩) (by show (wset w β.blk x).heap[b]? = _; rw [wset_heap, if_neg hne])]
   exact h.mok b k v hv
  fresh := h.fresh
  below := h.below.wset own.1 _
  len := by simp [h.len]
  obj := fun i p γ hp hγ => by
   rcases set_ hp with ⟨rfl, rfl⟩ | ⟨hne, hp⟩
   ·rw [hβ] at hγ
    obtain rfl := Option.some.inj hγ
    exact ob
   ·have := h.obj i p γ hp hγ
    cases p with
    | gone => exact trivial
    | box wr cs =>
     obtain ⟨vs, et, fr, h1, h2, h3, h4⟩ := this
     exact ⟨vs, et, fr, by rw [wset_heap, if_neg (h.inj i id _ o γ β hp ho hγ hβ (by simp) hg hne)]; exact h1, h2, h3, h4⟩
    | arr wr sz els =>
     obtain ⟨vs, et, fr, rfl, h1, h2, h3, h4, h5, h6, h7, h8, h9, h10⟩ := this
     exact ⟨vs, et, fr, rfl, by rw [wset_heap, if_neg (h.inj i id _ o γ β hp ho hγ hβ (by simp) hg hne)]; exact h1, h2, h3, h4, h5, h6, h7, h8, h9, h10⟩
    | map ck es => exact this.map_move (by rw [wset_heap, if_neg (h.inj i id _ o γ β hp ho hγ hβ (by simp) hg hne)]) fun _ _ r => r
    | it a b c d => exact this.it_move (by rw [wset_heap, if_neg (h.inj i id _ o γ β hp ho hγ hβ (by simp) hg hne)]) fun _ _ q => q
    | raw x => exact ⟨by rw [wset_heap, if_neg (h.inj i id _ o γ β hp ho hγ hβ (by simp) hg hne)]; exact this.1, this.2⟩
  own := fun i p γ hp hγ hgp => by
   rw [wset_size]
   rcases set_ hp with ⟨rfl, rfl⟩ | ⟨hne, hp⟩
   ·rw [hβ] at hγ
    obtain rfl := Option.some.inj hγ
    exact own
   ·exact h.own i p γ hp hγ hgp
  pin := h.pin
  inj := fun i j p q γ δ hp hq hγ hδ hgp hgq hne => by
   rcases set_ hp with ⟨q1, q2⟩ | ⟨hni, hp2⟩ <;> rcases set_ hq with ⟨q3, q4⟩ | ⟨hnj, hq2⟩
   ·exact absurd (q1.trans q3.symm) hne
   ·subst q1; exact h.inj _ j o q γ δ ho hq2 hγ hδ hg hgq hne
   ·subst q3; exact h.inj i _ p o γ δ hp2 ho hγ hδ hgp hg hne
   ·exact h.inj i j p q γ δ hp2 hq2 hγ hδ hgp hgq hne }
theorem St.lose (h : St w0 m0 N m ι e s a w) (id : Nat) : St w0 m0 N m ι e (s.set id .gone) a w :=
 have set_ : ∀ {i : Nat} {p : O}, (s.set id .gone)[i]? = some p → p = .gone ∨ s[i]? = some p := by
  intro i p hp
  rw [List.getElem?_set] at hp
  split at hp
  ·split at hp
   ·exact .inl (Option.some.inj hp).symm
   ·cases hp
  ·exact .inr hp
 {h with
  len := by simp [h.len]
  obj := fun i p γ hp hγ => by
   rcases set_ hp with rfl | hp
   ·exact trivial
   ·exact h.obj i p γ hp hγ
  own := fun i p γ hp hγ hg => by
   rcases set_ hp with rfl | hp
   ·exact absurd rfl hg
   ·exact h.own i p γ hp hγ hg
  inj := fun i j p q γ δ hp hq hγ hδ hgp hgq hne => by
   rcases set_ hp with rfl | hp
   ·exact absurd rfl hgp
   ·rcases set_ hq with rfl | hq
    ·exact absurd rfl hgq
    ·exact h.inj i j p q γ δ hp hq hγ hδ hgp hgq hne }
theorem pos?_get : ∀ (g : List Nat) (i j : Nat), pos? g i = some j → g[j]? = some i
 | [], _, _, h => by simp [pos?] at h
 | a :: g, i, j, h => by
  simp only [pos?] at h
  cases q : Nat.beq a i
  ·simp only [q, Option.map_eq_some_iff] at h
   obtain ⟨k, hk, rfl⟩ := h
   simpa using pos?_get g i k hk
  ·simp only [q, Option.some.injEq] at h
   subst h
   simpa using Nat.eq_of_beq_eq_true q
theorem pos?_none : ∀ (g : List Nat) (i : Nat), pos? g i = none → i ∉ g
 | [], _, _ => by simp
 | a :: g, i, h => by
  simp only [pos?] at h
  cases q : Nat.beq a i
  ·simp only [q, Option.map_eq_none_iff] at h
   have : a ≠ i := fun z => by subst z; simp at q
   simp only [List.mem_cons, not_or]
   exact ⟨fun z => this z.symm, pos?_none g i h⟩
  ·simp [q] at h
theorem nd_inj : ∀ (g : List Nat), nd g = true → ∀ (i j : Nat) x, g[i]? = some x → g[j]? = some x → i = j
 | [], _, i, j, x, h, _ => by simp at h
 | a :: g, h, i, j, x, hi, hj => by
  simp only [nd, Bool.and_eq_true] at h
  have hn : a ∉ g := by
   cases q : pos? g a with
   | none => exact pos?_none g a q
   | some k => simp [q] at h
  cases i with
  | zero =>
   cases j with
   | zero => rfl
   | succ j => simp at hi hj; subst hi; exact absurd (List.mem_of_getElem? hj) hn
  | succ i =>
   cases j with
   | zero => simp at hi hj; subst hj; exact absurd (List.mem_of_getElem? hi) hn
   | succ j => rw [nd_inj g h.2 i j x (by simpa using hi) (by simpa using hj)]
theorem pre_get : ∀ (n i : Nat) (g : List Nat), pre n i g = true → ∀ j, j < n → g[j]? = some (i + j)
 | 0, _, _, _, j, hj => by omega
 | n + 1, i, [], h, _, _ => by simp [pre] at h
 | n + 1, i, a :: g, h, j, hj => by
  simp only [pre, Bool.and_eq_true] at h
  cases j with
  | zero => simp [Nat.eq_of_beq_eq_true h.1]
  | succ j =>
   have := pre_get n (i + 1) g h.2 j (by omega)
   rw [List.getElem?_cons_succ, this]
   congr 1
   omega
theorem Rep.renamed {m : Mem} {ι κ : List Blk} {g : List Nat} (hk : ∀ (j i : Nat) β, g[j]? = some i → ι[i]? = some β → κ[j]? = some β) :
  ∀ (n : Nat) (v : V) (x : Value), Rep m ι v x → Rep m κ (ren n g v) x
 | 0, _, x, _ => .undef _ _
 | n + 1, v, x, hr => by
  have ih := Rep.renamed (m := m) hk n
  cases hr with
  | undef => exact .undef _ _
  | int _ k z hz => exact .int _ k z hz
  | bool _ b => exact .bool _ b
  | str _ b hb => exact .str _ b hb
  | nilFn => exact .nilFn _
  | nilPtr => exact .nilPtr _
  | nilMap => exact .nilMap _
  | nilI => exact .nilI _
  | fn _ f p q vp vq hp hq rp rq =>
   refine .fn _ f _ _ vp vq (by simp [hp]) (by simp [hq]) ?_ ?_
   ·intro i c y hc hy
    simp only [List.getElem?_map, Option.map_eq_some_iff] at hc
    obtain ⟨c', hc', rfl⟩ := hc
    exact ih c' y (rp i c' y hc' hy)
   ·intro i c y hc hy
    simp only [List.getElem?_map, Option.map_eq_some_iff] at hc
    obtain ⟨c', hc', rfl⟩ := hc
    exact ih c' y (rq i c' y hc' hy)
  | iface _ t v x hv => exact .iface _ t _ x (ih v x hv)
  | ptr _ id off β hβ =>
   simp only [ren]
   split
   ·rename_i j hj
    exact .ptr _ j off β (hk j id β (pos?_get g id j hj) hβ)
   ·exact .undef _ _
  | eptr _ id i off β hβ =>
   simp only [ren]
   split
   ·rename_i j hj
    exact .eptr _ j i off β (hk j id β (pos?_get g id j hj) hβ)
   ·exact .undef _ _
  | elem _ cs b o gg hm hc => exact .elem _ cs b o gg hm hc
  | row _ x els p cap sz b o gg hx hc hl hs ha hm hr => exact .row _ x els p cap sz b o gg hx hc hl hs ha hm hr
  | sl _ id off len p cap β hβ hl hc hn hb ha =>
   simp only [ren]
   split
   ·rename_i j hj
    exact .sl _ j off len p cap β (hk j id β (pos?_get g id j hj) hβ) hl hc hn hb ha
   ·exact .undef _ _
  | map _ id β hβ =>
   simp only [ren]
   split
   ·rename_i j hj
    exact .map _ j β (hk j id β (pos?_get g id j hj) hβ)
   ·exact .undef _ _
  | agg _ cs vs hl hr =>
   refine Rep.aggL ⟨by simp [hl], fun i c y hc hy => ?_⟩
   simp only [List.getElem?_map, Option.map_eq_some_iff] at hc
   obtain ⟨c', hc', rfl⟩ := hc
   exact ih c' y (hr i c' y hc' hy)
  | tup _ cs vs hl hr =>
   refine Rep.tupL ⟨by simp [hl], fun i c y hc hy => ?_⟩
   simp only [List.getElem?_map, Option.map_eq_some_iff] at hc
   obtain ⟨c', hc', rfl⟩ := hc
   exact ih c' y (hr i c' y hc' hy)
theorem Env.get_list (f : Nat → V) : ∀ (ks : List Nat) (t : Nat), Env.get (ks.map fun n => (n, f n)) t = f t ∨ Env.get (ks.map fun n => (n, f n)) t = .undef
 | [], t => .inr rfl
 | k :: ks, t => by
  simp only [List.map_cons, Env.get]
  cases q : Nat.beq k t
  ·exact Env.get_list f ks t
  ·rw [Nat.eq_of_beq_eq_true q]
   exact .inl rfl
theorem St.select (h : St w0 m0 N m ι e s a w) (ks g : List Nat) (hg : nd g = true) (hp : pre w0.pin.length 0 g = true) :
  St w0 m0 N m (g.map fun i => (ι[i]?).getD ⟨0, 0, 0, 0⟩) (ks.map fun n => (n, ren 8 g (e.get n))) (selO s g) a w :=
 have hk : ∀ (j i : Nat) β, g[j]? = some i → ι[i]? = some β → (g.map fun i => (ι[i]?).getD ⟨0, 0, 0, 0⟩)[j]? = some β := by
  intro j i β hj hi
  simp [hj, hi]
 have sel : ∀ {j : Nat} {p : O} {γ : Blk}, (selO s g)[j]? = some p → (g.map fun i => (ι[i]?).getD ⟨0, 0, 0, 0⟩)[j]? = some γ → p = .gone ∨ ∃ i o, g[j]? = some i ∧ s[i]? = some o ∧ ι[i]? = some γ ∧ p = o.ren g := by
  intro j p γ hp hγ
  simp only [selO, List.getElem?_map, Option.map_eq_some_iff] at hp hγ
  obtain ⟨i, hi, rfl⟩ := hp
  obtain ⟨i', hi', rfl⟩ := hγ
  rw [hi] at hi'
  obtain rfl := Option.some.inj hi'
  rw [at?_eq]
  cases q : s[i]? with
  | none => exact .inl rfl
  | some o =>
   have hlt : i < ι.length := h.len ▸ (List.getElem?_eq_some_iff.1 q).1
   exact .inr ⟨i, o, hi, q, by simp [List.getElem?_eq_getElem hlt], rfl⟩
 {defers := h.defers
  size := h.size
  env := fun t => by
   rcases Env.get_list (fun n => ren 8 g (e.get n)) ks t with q | q
   ·rw [q]; exact Rep.renamed hk 8 _ _ (h.env t)
   ·rw [q]; exact .undef _ _
  mle := h.mle
  glo := h.glo
  mok := h.mok
  fresh := h.fresh
  below := h.below
  len := by simp [selO]
  obj := fun j p γ hp hγ => by
   rcases sel hp hγ with rfl | ⟨i, o, hi, ho, hι, rfl⟩
   ·exact trivial
   ·have := h.obj i o γ ho hι
    cases o with
    | gone => exact trivial
    | box wr cs =>
     obtain ⟨vs, et, fr, h1, h2, h3, h4⟩ := this
     refine ⟨vs, et, fr, h1, ⟨by simp [h2.1], fun k c y hc hy => ?_⟩, h3, h4⟩
     simp only [List.getElem?_map, Option.map_eq_some_iff] at hc
     obtain ⟨c', hc', rfl⟩ := hc
     exact Rep.renamed hk 8 _ _ (h2.2 k c' y hc' hy)
    | arr wr sz els => exact this
    | map ck es =>
     obtain ⟨ms, h1, h2, h3⟩ := this
     refine ⟨ms, h1, ⟨by simp [h2.1], fun k x y hx hy => ?_⟩, by simpa using h3⟩
     simp only [List.getElem?_map, Option.map_eq_some_iff] at hx
     obtain ⟨x', hx', rfl⟩ := hx
     have := h2.2 k x' y hx' hy
     exact ⟨this.1, Rep.renamed hk 8 _ _ this.2.1, Rep.renamed hk 8 _ _ this.2.2⟩
    | it a b c d =>
     simp only [O.ren]
     split
     ·rename_i j hj
      obtain ⟨βm, h1, h2, h3⟩ := this
      exact ⟨βm, h1, hk j a βm (pos?_get g a j hj) h2, h3⟩
     ·exact trivial
    | raw x => exact this
  own := fun j p γ hp hγ hgp => by
   rcases sel hp hγ with rfl | ⟨i, o, hi, ho, hι, rfl⟩
   ·exact absurd rfl hgp
   ·exact h.own i o γ ho hι (fun z => hgp (by subst z; rfl))
  pin := fun i γ hi => hk i i γ (by have := pre_get _ _ _ hp i (List.getElem?_eq_some_iff.1 hi).1; rwa [Nat.zero_add] at this) (h.pin i γ hi)
  inj := fun j j' p q γ δ hp hq hγ hδ hgp hgq hne => by
   rcases sel hp hγ with rfl | ⟨i, o, hi, ho, hι, rfl⟩
   ·exact absurd rfl hgp
   ·rcases sel hq hδ with rfl | ⟨i', o', hi', ho', hι', rfl⟩
    ·exact absurd rfl hgq
    ·exact h.inj i i' o o' γ δ ho ho' hι hι' (fun z => hgp (by subst z; rfl)) (fun z => hgq (by subst z; rfl)) (fun z => by subst z; exact hne (nd_inj g hg j j' i hi hi')) }
theorem St.keep (h : St w0 m0 N m ι e s a w) (ks : List Nat) : St w0 m0 N m ι (ks.map fun n => (n, e.get n)) s a w :=
 {h with
  env := fun t => by
   rcases Env.get_list (fun n => e.get n) ks t with q | q
   ·rw [q]; exact h.env t
   ·rw [q]; exact .undef _ _ }
theorem arrIds_mem : ∀ (s : List O) (k i : Nat) w z els, s[i]? = some (.arr w z els) → k + i ∈ arrIds s k
 | [], _, _, _, _, _, h => by simp at h
 | o :: l, k, 0, w, z, els, h => by
  simp at h
  subst h
  simp [arrIds]
 | o :: l, k, i + 1, w, z, els, h => by
  have := arrIds_mem l (k + 1) i w z els (by simpa using h)
  rw [show k + 1 + i = k + (i + 1) by omega] at this
  cases o <;> simp only [arrIds] <;> first | exact this | exact List.mem_cons_of_mem _ this
theorem St.fz1 (h : St w0 m0 N m ι e s a w) : ∀ (n : Nat) (v : V) (x : Value), Rep m ι v x → Rep (addM m w s ι (arrIds s 0)) ι (fzV n s v) x
 | 0, v, x, hr => by
  have : fzV 0 s v = v := by cases v <;> rfl
  rw [this]
  exact hr.mono (addM_le _ _ _ _ _)
 | n + 1, v, x, hr => by
  have hle := addM_le m w s ι (arrIds s 0)
  have ih := St.fz1 h n
  cases v with
  | sl id off len =>
   simp only [fzV]
   rw [at?_eq]
   split
   ·rename_i wr z els hs
    have := h.frz1 (arrIds s 0) 1 _ x hr (fun i hi => by
     simp only [idl, List.mem_singleton] at hi
     subst hi
     have := arrIds_mem s 0 i wr z els hs
     rwa [Nat.zero_add] at this)
    simp only [frz, at?_eq, hs] at this
    exact this.closed ι
   ·exact .undef _ _
  | agg cs =>
   obtain ⟨vs, rfl, hl, hr⟩ := hr.agg_inv
   refine Rep.aggL ⟨by simp [hl], fun i c y hc hy => ?_⟩
   simp only [List.getElem?_map, Option.map_eq_some_iff] at hc
   obtain ⟨c', hc', rfl⟩ := hc
   exact ih c' y (hr i c' y hc' hy)
  | tup cs =>
   obtain ⟨vs, rfl, hl, hr⟩ := hr.tup_inv
   refine Rep.tupL ⟨by simp [hl], fun i c y hc hy => ?_⟩
   simp only [List.getElem?_map, Option.map_eq_some_iff] at hc
   obtain ⟨c', hc', rfl⟩ := hc
   exact ih c' y (hr i c' y hc' hy)
  | iface t v =>
   cases hr with | iface _ _ _ x hx => exact .iface _ t _ x (ih v x hx)
  | _ => exact hr.mono hle
theorem Env.get_map (f : V → V) (hf : f .undef = .undef) : ∀ (e : Env) (t : Nat), Env.get (e.map fun p => (p.1, f p.2)) t = f (e.get t)
 | [], t => hf.symm
 | (k, v) :: e, t => by
  simp only [List.map_cons, Env.get]
  cases Nat.beq k t
  ·exact Env.get_map f hf e t
  ·rfl
theorem St.fzAll (h : St w0 m0 N m ι e s a w) : St w0 m0 N (addM m w s ι (arrIds s 0)) ι (e.map fun p => (p.1, fzV 4 s p.2)) (fzS s) a w :=
 have h1 := h.mark (arrIds s 0)
 have get : ∀ {i : Nat} {o : O}, (fzS s)[i]? = some o → ∃ p, (Ab.mark s (arrIds s 0))[i]? = some p ∧ o = fzO s p := by
  intro i o ho
  simp only [fzS, List.getElem?_map, Option.map_eq_some_iff] at ho
  obtain ⟨p, hp, rfl⟩ := ho
  exact ⟨p, hp, rfl⟩
 have gone : ∀ {p : O}, fzO s p ≠ .gone → p ≠ .gone := fun {p} h q => h (by subst q; rfl)
 {h1 with
  env := fun t => by
   rw [Env.get_map (fzV 4 s) rfl]
   exact h.fz1 4 _ _ (h.env t)
  len := by rw [h1.len]; simp [fzS]
  obj := fun i o β ho hβ => by
   obtain ⟨p, hp, rfl⟩ := get ho
   have hob := h1.obj i p β hp hβ
   cases p with
   | box wr cs =>
    rw [mark_get, Option.map_eq_some_iff] at hp
    obtain ⟨q, hq, hqp⟩ := hp
    obtain ⟨vs, et, fr, k1, k2, k3, k4⟩ := hob
    have hq2 : ∃ wr', q = .box wr' cs := by
     split at hqp
     ·cases q <;> simp [O.ro] at hqp
      exact ⟨_, by rw [hqp.2]⟩
     ·exact ⟨wr, hqp⟩
    obtain ⟨wr', rfl⟩ := hq2
    obtain ⟨vs', et', fr', k1', k2', _⟩ := h.obj i _ β hq hβ
    have hvs : vs' = vs := by
     rw [k1] at k1'
     simp only [Option.some.injEq, Obj.cells.injEq] at k1'
     have := congrArg Array.toList k1'.1
     simpa using this.symm
    subst hvs
    refine ⟨vs', et, fr, k1, ⟨by simp [k2'.1], fun j c y hc hy => ?_⟩, k3, k4⟩
    simp only [List.getElem?_map, Option.map_eq_some_iff] at hc
    obtain ⟨c', hc', rfl⟩ := hc
    exact h.fz1 4 c' y (k2'.2 j c' y hc' hy)
   | _ => exact hob
  own := fun i o β ho hβ hg => by
   obtain ⟨p, hp, rfl⟩ := get ho
   exact h1.own i p β hp hβ (gone hg)
  inj := fun i j o p β γ ho hp hβ hγ hgo hgp hne => by
   obtain ⟨o', ho', rfl⟩ := get ho
   obtain ⟨p', hp', rfl⟩ := get hp
   exact h1.inj i j o' p' β γ ho' hp' hβ hγ (gone hgo) (gone hgp) hne }
end
end Go.Proofs.YtcbknemdidehlaaGreatDoor.Ab
namespace Go.Proofs.YtcbknemdidehlaaGreatDoor.Ab
open Go.RowKit
set_option linter.unusedVariables false
set_option linter.unusedSimpArgs false
def Goes (P : Program) (o : Oper) (a : Act) (w : World) (R : Value → World → Prop) : Prop :=
 match (execOp a.eval o).run P w with
 | .ok (.value x) w' => R x w'
 | .ok .skip w' => R undef w'
 | .ok (.enter f args) w' => Calls P f args w' fun e w'' => ∃ v, e = .returned v ∧ R v w''
 | _ => False
theorem Goes.wp {P : Program} {o : Oper} {a : Act} {w : World} {K : Act → World → Prop} {Q : Exit → Act → World → Prop} (h : Goes P o a w fun x w' => K (a.put o.dst x) w') : o.wp P a w K Q := by
 unfold Goes at h
 unfold Oper.wp
 generalize (execOp a.eval o).run P w = r at h
 cases r with
 | ok n w' =>
  cases n <;> simp only [Oper.upon] <;> first
   | exact h
   | exact h.mono fun e w'' ⟨v, he, hr⟩ => by subst he; exact hr
   | exact h.elim
 | halt x w' => exact h.elim
theorem Goes.mono {P : Program} {o : Oper} {a : Act} {w : World} {R R' : Value → World → Prop} (h : Goes P o a w R) (hr : ∀ x w', R x w' → R' x w') : Goes P o a w R' := by
 unfold Goes at h ⊢
 generalize (execOp a.eval o).run P w = r at h
 cases r with
 | ok n w' =>
  cases n <;> first
   | exact hr _ _ h
   | exact h.mono fun e w'' ⟨v, he, h2⟩ => ⟨v, he, hr _ _ h2⟩
   | exact h.elim
 | halt x w' => exact h.elim
section
variable {P : Program} {w : World}
theorem run_und {t : TypeId} {d : TypeDesc} (h : P.underlying t = some d) : (underlying t).run P w = .ok d w := by simp [underlying, h]
theorem run_info {t : TypeId} {i : TypeInfo} (h : P.info? t = some i) : (typeInfo t).run P w = .ok i w := by simp [typeInfo, h]
theorem run_size {t : TypeId} {n : Nat} (h : szT P t = some n) : (Go.sizeOf t).run P w = .ok n w := by
 unfold szT at h
 rw [Option.map_eq_some_iff] at h
 obtain ⟨i, hi, rfl⟩ := h
 simp [Go.sizeOf, run_info hi]
theorem run_isAgg {t : TypeId} {b : Bool} (h : isAggT P t = some b) : (isAgg t).run P w = .ok b w := by
 unfold isAggT at h
 unfold isAgg
 split at h
 ·rename_i hu; simp [run_und hu]; exact (Option.some.inj h).symm
 ·rename_i hu; simp [run_und hu]; exact (Option.some.inj h).symm
 ·rename_i d h1 h2 hu
  have hb := Option.some.inj h
  simp only [Sem.run_bind, run_und hu, Result.andThen_ok]
  cases d <;> first
   | exact absurd rfl (h1 _)
   | exact absurd rfl (h2 _ _)
   | simp [← hb]
 ·cases h
def zOk (P : Program) (t : TypeId) : Bool := match P.info? t with | some i => (match i.zero with | some v => cOk v | none => true) | none => true
theorem run_zero {t : TypeId} {z : V} (h : zeroT P t = some z) (hz : zOk P t = true) : ∃ v, (zeroValue t).run P w = .ok v w ∧ z = ofC v ∧ cOk v = true := by
 unfold zeroT at h
 rw [Option.map_eq_some_iff] at h
 obtain ⟨v, hv, rfl⟩ := h
 rw [Option.bind_eq_some_iff] at hv
 obtain ⟨i, hi, hv⟩ := hv
 refine ⟨v, by simp [zeroValue, run_info hi, hv], rfl, ?_⟩
 simpa [zOk, hi, hv] using hz
end
def okX : Operand → Bool
 | .const v => cOk v
 | _ => true
def okO (P : Program) (N : Nat) (o : Oper) : Bool :=
 (match o.dst with | some t => Nat.blt t N | none => true) && o.op.operands.toList.all okX &&
 (match o.op with
  | .alloc t => zOk P t
  | .build t _ => zOk P t && (match P.underlying t with | some (.struct fs) => (fs.toList.mapM (fun f => (P.info? f.type).map fun i => (f.offset, i.size))).isSome | _ => true)
  | .buildSlice t _ _ => (match P.underlying t with | some (.slice el) => zOk P el | _ => true)
  | .typeAssert _ _ t _ => zOk P t
  | .lookup t _ _ _ => (match P.underlying t with | some (.map _ el) => zOk P el | _ => true) && keyT P t
  | .mapUpdate t _ _ _ => keyT P t
  | .mapEntry t _ _ => (match P.underlying t with | some (.map _ el) => zOk P el | _ => true) && keyT P t
  | .call c => Nat.beq c.argTypes.size c.args.size
  | .binOp _ t _ _ _ => (match P.underlying t with | some (.struct fs) => fs.toList.all (fun f => f.name != "_") && !P.eqGuardType P.depth t && !P.stoodInHeld t | _ => true)
  | _ => true)
section
variable {l : Bool} {P : Program} {w0 : Base} {m0 : Mem} {N : Nat} {m : Mem} {ι : List Blk} {e : Env} {s : List O} {a : Act} {w : World} {o : Oper} {K : V → List O → Prop}
def Lv (w0 : Base) (m0 : Mem) (N : Nat) (e : Env) (a : Act) (K : V → List O → Prop) (x : Value) (w' : World) : Prop :=
 ∃ v s' m' ι', K v s' ∧ Rep m' ι' v x ∧ St w0 m0 N m' ι' e s' a w'
theorem Goes.here (h : St w0 m0 N m ι e s a w) {v : V} {x : Value} (hr : (execOp a.eval o).run P w = .ok (.value x) w) (r : Rep m ι v x) (k : K v s) : Goes P o a w (Lv w0 m0 N e a K) := by
 unfold Goes
 rw [hr]
 exact ⟨v, s, m, ι, k, r, h⟩
theorem St.at (h : St w0 m0 N m ι e s a w) {x : Operand} (hx : okX x = true) : Rep m ι (ev e x) (a.eval x) :=
 h.evs fun v q => by subst q; exact hx
theorem wrapK (k : IntKind) (n : Int) : k.wrap (k.wrap n) = k.wrap n := by
 cases k <;> simp only [IntKind.wrap, IntKind.bits, IntKind.signed] <;> simp <;> omega
def kLo (k : IntKind) : Int := match k with | .i8 => -128 | .i16 => -32768 | .i32 => -2147483648 | .i64 => -9223372036854775808 | _ => 0
def kHi (k : IntKind) : Int := match k with | .i8 => 127 | .i16 => 32767 | .i32 => 2147483647 | .i64 => 9223372036854775807 | .u8 => 255 | .u16 => 65535 | .u32 => 4294967295 | .u64 => 18446744073709551615
theorem wrap_iff (k : IntKind) (n : Int) : k.wrap n = n ↔ kLo k ≤ n ∧ n ≤ kHi k := by
 cases k <;> simp only [IntKind.wrap, IntKind.bits, IntKind.signed, kLo, kHi] <;> simp <;> omega
theorem kLo_le (k : IntKind) : kLo k ≤ 0 ∧ 0 ≤ kHi k := by cases k <;> decide
theorem wrap_tmod {k : IntKind} {x y : Int} (hx : k.wrap x = x) : k.wrap (x.tmod y) = x.tmod y := by
 rw [wrap_iff] at hx ⊢
 have hk := kLo_le k
 have hn : (x.tmod y).natAbs ≤ x.natAbs := by rw [Int.natAbs_tmod]; exact Nat.mod_le _ _
 rcases Int.le_total 0 x with h | h
 ·have := Int.tmod_nonneg y h
  omega
 ·have h2 : 0 ≤ (-x).tmod y := Int.tmod_nonneg y (by omega)
  rw [Int.neg_tmod] at h2
  omega
theorem wrap_shr {k : IntKind} {x : Int} {n : Nat} (hx : k.wrap x = x) : k.wrap (x.fdiv (2 ^ n)) = x.fdiv (2 ^ n) := by
 rw [wrap_iff] at hx ⊢
 have hk := kLo_le k
 have hp : (1 : Int) ≤ 2 ^ n := by
  have := Nat.two_pow_pos n
  have e1 : ((2 ^ n : Nat) : Int) = 2 ^ n := by simp
  omega
 rw [Int.fdiv_eq_ediv_of_nonneg _ (by omega)]
 rcases Int.le_total 0 x with h | h
 ·have h1 : 0 ≤ x / 2 ^ n := Int.ediv_nonneg h (by omega)
  have h2 : x / 2 ^ n ≤ x := Int.ediv_le_self _ h
  omega
 ·have h1 : x ≤ x / 2 ^ n := by
   rw [Int.le_ediv_iff_mul_le (by omega)]
   have := Int.mul_le_mul_of_nonneg_left hp (show 0 ≤ -x by omega)
   rw [Int.mul_one, Int.neg_mul] at this
   omega
  have h2 : x / 2 ^ n ≤ 0 := by
   have := Int.ediv_le_ediv (show (0 : Int) < 2 ^ n by omega) h
   simpa using this
  omega
end
end Go.Proofs.YtcbknemdidehlaaGreatDoor.Ab
namespace Go.Proofs.YtcbknemdidehlaaGreatDoor.Ab
open Go.RowKit
set_option linter.unusedVariables false
set_option linter.unusedSimpArgs false
section
variable {l : Bool} {P : Program} {w0 : Base} {m0 : Mem} {N : Nat} {m : Mem} {ι : List Blk} {e : Env} {s : List O} {a : Act} {w : World} {o : Oper} {K : V → List O → Prop}
theorem wrapR {m : Mem} {ι : List Blk} (k : IntKind) (n : Int) : Rep m ι (.int k (k.wrap n)) (.int k (k.wrap n)) := .int ι k _ (wrapK k n)
theorem str_eq (x y : ByteArray) : (x.toList == y.toList) = decide (x = y) := by
 rw [ByteArray.toList_eq, ByteArray.toList_eq, Bool.eq_iff_iff]
 simp only [beq_iff_eq, decide_eq_true_eq]
 constructor
 ·intro h
  cases x; cases y
  congr 1
  exact Array.toList_inj.1 h
 ·rintro rfl; rfl
theorem run_eqLeaf {t : TypeId} {x y : Value} {u v : V} {b : Bool} (hx : Rep m ι u x) (hy : Rep m ι v y) (hq : eqLeaf P t u v = some b) (d : Nat) (w : World) :
  (Op.equalIn (d + 1) t x y).run P w = .ok b w ∧ ∃ tt, isAggT P t = some tt ∧ tt = false := by
 unfold eqLeaf at hq
 split at hq
 ·rename_i k k1 a j b1 hu
  split at hq
  ·rename_i hk
   have hk := of_decide_eq_true hk
   subst hk
   obtain ⟨rfl, _⟩ := hx.int_inv
   obtain ⟨rfl, _⟩ := hy.int_inv
   refine ⟨?_, _, by simp [isAggT, hu], rfl⟩
   rw [run_equalIn_int w d t _ k _ _ hu]
   obtain rfl := Option.some.inj hq
   rfl
  ·cases hq
 ·rename_i p q hu
  obtain ⟨rfl, _⟩ := hx.str_inv
  obtain ⟨rfl, _⟩ := hy.str_inv
  refine ⟨?_, _, by simp [isAggT, hu], rfl⟩
  rw [run_equalIn_string w d t _ _ hu, str_eq]
  obtain rfl := Option.some.inj hq
  rfl
 ·rename_i p q hu
  obtain rfl := hx.bool_inv
  obtain rfl := hy.bool_inv
  refine ⟨?_, _, by simp [isAggT, hu], rfl⟩
  rw [run_equalIn_bool w d t _ _ hu]
  obtain rfl := Option.some.inj hq
  rfl
 ·cases hq
theorem run_part {t : TypeId} (h : isAggT P t = some false) {cs : Array Value} {off : Nat} {v : Value} (hv : cs[off]? = some v) (w : World) : (part t cs off).run P w = .ok v w := by
 simp [part, run_isAgg h, hv]
theorem run_eqFs (d : Nat) (xs ys : Array Value) (w : World) : ∀ (fs : List Field) (i : Nat) (us vs : List V) (b : Bool), RepL m ι us (xs.toList.drop i) → RepL m ι vs (ys.toList.drop i) →
  eqFs P i fs us vs = some b → fs.all (fun f => f.name != "_") = true → (Op.eqFields (d + 1) xs ys fs).run P w = .ok b w
 | [], i, [], [], b, _, _, hq, _ => by
  simp only [eqFs, Option.some.injEq] at hq
  subst hq
  simp [Op.eqFields]
 | f :: fs, i, u :: us, v :: vs, b, hx, hy, hq, hn => by
  simp only [eqFs] at hq
  split at hq
  ·rename_i x y hoff hl hr
   obtain rfl := Option.some.inj hq
   have hoff := Nat.eq_of_beq_eq_true hoff
   simp only [List.all_cons, Bool.and_eq_true, bne_iff_ne] at hn
   obtain ⟨p, hp, rp⟩ := hx.get (i := 0) (c := u) rfl
   obtain ⟨q, hq2, rq⟩ := hy.get (i := 0) (c := v) rfl
   obtain ⟨h1, tt, h2, rfl⟩ := run_eqLeaf (P := P) rp rq hl d w
   have hp' : xs[f.offset]? = some p := by rw [hoff]; simpa using hp
   have hq' : ys[f.offset]? = some q := by rw [hoff]; simpa using hq2
   have ih := run_eqFs d xs ys w fs (i + 1) us vs y
    ⟨by have := hx.1; simp at this ⊢; omega, fun k c z hc hz => hx.2 (k + 1) c z (by simpa using hc) (by simpa [Nat.add_assoc, Nat.add_comm 1 k] using hz)⟩
    ⟨by have := hy.1; simp at this ⊢; omega, fun k c z hc hz => hy.2 (k + 1) c z (by simpa using hc) (by simpa [Nat.add_assoc, Nat.add_comm 1 k] using hz)⟩ hr (by simpa using hn.2)
   simp only [Op.eqFields, if_pos hn.1, Sem.run_bind, run_part h2 hp', run_part h2 hq', Result.andThen_ok, h1]
   cases x
   ·simp
   ·simpa using ih
  ·cases hq
 | [], _, _ :: _, _, _, _, _, hq, _ => by simp [eqFs] at hq
 | [], _, [], _ :: _, _, _, _, hq, _ => by simp [eqFs] at hq
 | _ :: _, _, [], _, _, _, _, hq, _ => by simp [eqFs] at hq
 | _ :: _, _, _ :: _, [], _, _, _, hq, _ => by simp [eqFs] at hq
theorem run_nilEq {x0 y0 : Operand} {d : TypeDesc} {t : TypeId} {u v : V} {x y : Value} {c : Bool} (hx : Rep m ι u x) (hy : Rep m ι v y) (hu : P.underlying t = some d) (hc : nilEq d u v = some c) (n : Nat) (w : World) :
  (Op.equalIn (n + 1) t x y).run P w = .ok c w ∧ (eqGuard .eql t x0 y0 x y).run P w = .ok () w ∧ (eqGuard .neq t x0 y0 x y).run P w = .ok () w ∧
  binOp .eql t x y = (do pure (.bool (← Op.equal t x y))) ∧ binOp .neq t x y = (do pure (.bool (!(← Op.equal t x y)))) := by
 unfold nilEq at hc
 split at hc <;> first | (cases hc; done) | (
  cases hx
  cases hy
  obtain rfl := Option.some.inj hc
  refine ⟨by simp [Op.equalIn, run_und hu], by simp [eqGuard], by simp [eqGuard], rfl, rfl⟩)
theorem binK_sound {op : BinOp} {t : TypeId} {x y : Operand} {K : V → Prop} (h : St w0 m0 N m ι e s a w) (hx : okX x = true) (hy : okX y = true)
  (ho : (match P.underlying t with | some (.struct fs) => fs.toList.all (fun f => f.name != "_") && !P.eqGuardType P.depth t && !P.stoodInHeld t | _ => true) = true) (hk : binK P op t (ev e x) (ev e y) K) :
  ∃ v z, K v ∧ Rep m ι v z ∧ ((do eqGuard op t x y (a.eval x) (a.eval y); binOp op t (a.eval x) (a.eval y)) : Sem Value).run P w = .ok z w := by
 have rx := h.at hx
 have ry := h.at hy
 generalize a.eval x = vx at *
 generalize a.eval y = vy at *
 generalize hex0 : ev e x = ux at *
 generalize hey0 : ev e y = uy at *
 clear hex0 hey0
 unfold binK at hk
 split at hk
 ·
  rename_i k p j q
  obtain ⟨rfl, hp⟩ := rx.int_inv
  obtain ⟨rfl, hq⟩ := ry.int_inv
  have hg : (eqGuard op t x y (.int k p) (.int j q)).run P w = .ok () w := by cases op <;> simp [eqGuard]
  simp only [Sem.run_bind, hg, Result.andThen_ok]
  split at hk
  ·obtain ⟨⟨h0⟩, hk⟩ := hk
   exact ⟨_, _, hk, wrapR _ _, by simp [binOp, Op.shift, show ¬ q < 0 by omega]⟩
  ·obtain ⟨⟨h0⟩, hk⟩ := hk
   exact ⟨_, _, hk, .int _ _ _ (wrap_shr hp), by simp [binOp, Op.shift, show ¬ q < 0 by omega]⟩
  ·rename_i hs1 hs2
   split at hk
   ·exact hk.elim
   ·rename_i hkj
    have hkj := of_decide_eq_true hkj
    subst hkj
    split at hk
    ·exact ⟨_, _, hk, wrapR _ _, by simp [binOp, Op.intArith]⟩
    ·exact ⟨_, _, hk, wrapR _ _, by simp [binOp, Op.intArith]⟩
    ·exact ⟨_, _, hk, wrapR _ _, by simp [binOp, Op.intArith]⟩
    ·obtain ⟨⟨h0⟩, hk⟩ := hk
     exact ⟨_, _, hk, wrapR _ _, by simp [binOp, Op.intDiv, h0]⟩
    ·obtain ⟨⟨h0⟩, hk⟩ := hk
     exact ⟨_, _, hk, .int _ _ _ (wrap_tmod hp), by simp [binOp, Op.intDiv, h0]⟩
    ·split at hk
     ·rename_i r hr
      unfold bitsI at hr
      split at hr <;> first | (cases hr; done) | (obtain rfl := Option.some.inj hr; exact ⟨_, _, hk, wrapR _ _, by simp [binOp, Op.intBits]⟩)
     ·split at hk
      ·rename_i c hc
       unfold cmpI at hc
       split at hc <;> first | (cases hc; done) | (obtain rfl := Option.some.inj hc; exact ⟨_, _, hk, .bool _ _, by simp [binOp, Op.intCmp, bne]; try rfl⟩)
      ·exact hk.elim
 ·
  rename_i p q
  obtain ⟨rfl, hp⟩ := rx.str_inv
  obtain ⟨rfl, hq⟩ := ry.str_inv
  have hg : (eqGuard op t x y (.string p) (.string q)).run P w = .ok () w := by cases op <;> simp [eqGuard]
  simp only [Sem.run_bind, hg, Result.andThen_ok]
  split at hk
  ·obtain ⟨⟨h0⟩, hk⟩ := hk
   have h1 : ¬ (((p.size + q.size : Nat) : Int) > IntKind.i64.max) := by
    have : IntKind.i64.max = 9223372036854775807 := rfl
    omega
   refine ⟨_, _, hk, .str _ _ (by simpa using h0), ?_⟩
   simp only [binOp, Op.stringOp, if_neg h1, Sem.run_pure]
  ·split at hk
   ·rename_i c hc
    unfold cmpS at hc
    split at hc <;> first | (cases hc; done) | (obtain rfl := Option.some.inj hc; exact ⟨_, _, hk, .bool _ _, by simp only [binOp, Op.stringOp, Sem.run_pure, str_eq]⟩)
   ·exact hk.elim
 ·
  rename_i p q
  obtain rfl := rx.bool_inv
  obtain rfl := ry.bool_inv
  split at hk
  ·rename_i hu
   split at hk
   ·rename_i c hc
    unfold flip at hc
    split at hc
    ·obtain rfl := Option.some.inj hc
     exact ⟨_, _, hk, .bool _ _, by simp [eqGuard, run_eql_bool w t _ _ hu]⟩
    ·obtain rfl := Option.some.inj hc
     exact ⟨_, _, hk, .bool _ _, by simp [eqGuard, run_neq_bool w t _ _ hu]⟩
    ·cases hc
   ·exact hk.elim
  ·exact hk.elim
 ·
  rename_i p q
  obtain ⟨xs, rfl, rxs⟩ := rx.agg_inv
  obtain ⟨ys, rfl, rys⟩ := ry.agg_inv
  split at hk
  ·rename_i fs hu
   rw [hu] at ho
   simp only [Bool.and_eq_true, Bool.not_eq_true'] at ho
   split at hk
   ·rename_i c hc
    have hf : P.fieldsOf t = fs := by simp [Program.fieldsOf, hu]
    have he : (Op.equalIn 10000 t (.agg xs.toArray) (.agg ys.toArray)).run P w = .ok c w := by
     rw [run_equalIn_agg w 9999 t _ _ (by rw [hf]; exact hu) ho.2, hf]
     exact run_eqFs 9998 _ _ w fs.toList 0 p q c (by simpa using rxs) (by simpa using rys) hc ho.1.1
    have hg := run_eqGuard_agg (P := P) w op t x y xs.toArray ys.toArray ho.1.2
    split at hk
    ·rename_i r hr
     unfold flip at hr
     split at hr
     ·obtain rfl := Option.some.inj hr
      refine ⟨_, _, hk, .bool _ _, ?_⟩
      simp only [Sem.run_bind, hg, Result.andThen_ok, run_eql_struct, he]
     ·obtain rfl := Option.some.inj hr
      refine ⟨_, _, hk, .bool _ _, ?_⟩
      simp only [Sem.run_bind, hg, Result.andThen_ok, run_neq_struct, he]
     ·cases hr
    ·exact hk.elim
   ·exact hk.elim
  ·exact hk.elim
 ·
  split at hk
  ·rename_i d hu
   split at hk
   ·rename_i c hc
    split at hk
    ·rename_i r hr
     obtain ⟨h1, h2, h3, h4, h5⟩ := run_nilEq (P := P) (x0 := x) (y0 := y) rx ry hu hc 9999 w
     have h6 : (Op.equal t vx vy).run P w = .ok c w := h1
     have key : ∃ z, Rep m ι (.bool r) z ∧ ((do eqGuard op t x y vx vy; binOp op t vx vy) : Sem Value).run P w = .ok z w := by
      unfold flip at hr
      split at hr
      ·obtain rfl := Option.some.inj hr
       exact ⟨_, .bool _ _, by simp only [Sem.run_bind, h2, Result.andThen_ok, h4, h6, Sem.run_pure]⟩
      ·obtain rfl := Option.some.inj hr
       exact ⟨_, .bool _ _, by simp only [Sem.run_bind, h3, Result.andThen_ok, h5, h6, Sem.run_pure]⟩
      ·cases hr
     obtain ⟨z, hz, hr2⟩ := key
     exact ⟨_, z, hk, hz, hr2⟩
    ·exact hk.elim
   ·exact hk.elim
  ·exact hk.elim
end
end Go.Proofs.YtcbknemdidehlaaGreatDoor.Ab
namespace Go.Proofs.YtcbknemdidehlaaGreatDoor.Ab
open Go.RowKit
set_option linter.unusedVariables false
set_option linter.unusedSimpArgs false
section
variable {l : Bool} {P : Program} {w0 : Base} {m0 : Mem} {N : Nat} {m : Mem} {ι : List Blk} {e : Env} {s : List O} {a : Act} {w : World} {o : Oper} {K : V → List O → Prop}
def wnew (w : World) (vs : List Value) (t : TypeId) : World := { w with heap := w.heap.push (.cells vs.toArray t) }
theorem below_new (w : World) (vs : List Value) (t : TypeId) : Below w.heap.size w (wnew w vs t) :=
 ⟨rfl, rfl, rfl, by simp [wnew], fun k hk => by simp only [wnew, Array.getElem?_push]; rw [if_neg (by omega)]⟩
theorem wnew_size (w : World) (vs : List Value) (t : TypeId) : (wnew w vs t).heap.size = w.heap.size + 1 := by simp [wnew]
theorem wnew_at (w : World) (vs : List Value) (t : TypeId) : (wnew w vs t).heap[w.heap.size]? = some (.cells vs.toArray t (0, 0)) := by
 show (w.heap.push _)[w.heap.size]? = _
 rw [Array.getElem?_push, if_pos rfl]
theorem Mem.ok.none_ {m : Mem} {w : World} (h : m.ok w) {b : Nat} (hb : w.heap.size ≤ b) (o : Nat) : m b o = none := by
 cases q : m b o with
 | none => rfl
 | some v => have := h.lt q; omega
theorem St.newBox (h : St w0 m0 N m ι e s a w) {cs : List V} {vs : List Value} (r : RepL m ι cs vs) (t : TypeId) :
  St w0 m0 N m (ι ++ [⟨w.heap.size, 0, 0, 0⟩]) e (s ++ [.box true cs]) a (wnew w vs t) :=
 h.new (below_new w vs t) (by rw [wnew_size]; omega) rfl
  ⟨vs, t, (0, 0), wnew_at w vs t, r.ext (fun i γ hi => by rw [List.getElem?_append_left (List.getElem?_eq_some_iff.1 hi).1]; exact hi), fun i hi => by omega, fun _ o => h.mok.none_ (Nat.le_refl _) o⟩
theorem goes_box (h : St w0 m0 N m ι e s a w) {x : Value} {v : V} {cs : List V} (r : Rep m ι v x) (hc : cellsV v = some cs) {t : TypeId}
  (hr : (execOp a.eval o).run P w = .ok (.value (.pointer (some ⟨w.heap.size, 0, none⟩))) (wnew w x.cells.toList t)) (k : K (.ptr s.length 0) (s ++ [.box true cs])) : Goes P o a w (Lv w0 m0 N e a K) := by
 unfold Goes
 rw [hr]
 refine ⟨_, _, m, _, k, ?_, h.newBox (r.cells hc) t⟩
 have hp := Rep.ptr (m := m) (ι ++ [⟨w.heap.size, 0, 0, 0⟩]) s.length 0 ⟨w.heap.size, 0, 0, 0⟩ (by rw [← h.len]; simp)
 exact hp
theorem goes_alloc (h : St w0 m0 N m ι e s a w) {t : TypeId} (ho : o.op = .alloc t) (hz : zOk P t = true) (hk : opK P l e s o K) : Goes P o a w (Lv w0 m0 N e a K) := by
 simp only [opK, ho] at hk
 split at hk
 ·rename_i cs hcs
  rw [Option.bind_eq_some_iff] at hcs
  obtain ⟨z, hz1, hz2⟩ := hcs
  obtain ⟨v, hv, rfl, hok⟩ := run_zero (w := w) hz1 hz
  rw [litK_eq] at hk
  refine goes_box h (ofC_rep m ι v hok) hz2 (t := t) ?_ hk
  simp [execOp, ho, Instr.alloc, hv, newVar, newRow, wnew]
 ·exact hk.elim
theorem goes_boxop (h : St w0 m0 N m ι e s a w) {t : TypeId} {x : Operand} (ho : o.op = .box t x) (hx : okX x = true) (hk : opK P l e s o K) : Goes P o a w (Lv w0 m0 N e a K) := by
 simp only [opK, ho] at hk
 split at hk
 ·rename_i cs hcs
  rw [litK_eq] at hk
  refine goes_box h (h.at hx) hcs (t := t) ?_ hk
  simp [execOp, ho, Instr.box, newVar, newRow, wnew]
 ·exact hk.elim
theorem run_ldV {t : TypeId} {cs : List V} {v : V} (hv : ldV P t cs = some v) {b off : Nat} {vs : List Value} (hm : ∀ (j : Nat) x, vs[j]? = some x → w.cell? ⟨b, off + j, none⟩ = some x) (r : RepL m ι cs vs) :
  ∃ x, (loadVar t ⟨b, off, none⟩).run P w = .ok x w ∧ Rep m ι v x := by
 unfold ldV at hv
 split at hv
 ·rename_i n hA hn
  split at hv
  ·rename_i hle
   have hle := Nat.le_of_ble_eq_true hle
   obtain rfl := Option.some.inj hv
   have hl : (vs.take n).length = n := by simp; rw [← r.1]; exact Nat.min_eq_left hle
   refine ⟨_, ?_, Rep.aggL (r.take n)⟩
   have := run_loadCells_list (P := P) w ⟨b, off, none⟩ (vs.take n) (fun j x hj => by
    rw [addr_add]
    rw [List.getElem?_take] at hj
    split at hj
    ·exact hm j x hj
    ·cases hj)
   rw [hl] at this
   simp [loadVar, run_isAgg hA, run_size hn, this]
  ·cases hv
 ·rename_i hA
  cases cs with
  | nil => simp at hv
  | cons c cs =>
   simp only [List.head?_cons, Option.some.injEq] at hv
   subst hv
   obtain ⟨x, hx, rx⟩ := r.get (i := 0) rfl
   refine ⟨x, ?_, rx⟩
   have := hm 0 x hx
   simp only [Nat.add_zero] at this
   simp [loadVar, run_isAgg hA, this]
 ·cases hv
theorem box_cells (h : St w0 m0 N m ι e s a w) {id : Nat} {wr : Bool} {cs : List V} {β : Blk} (hs : s[id]? = some (.box wr cs)) (hβ : ι[id]? = some β) (off : Nat) :
  ∃ vs, RepL m ι (cs.drop off) vs ∧ ∀ (j : Nat) x, vs[j]? = some x → w.cell? ⟨β.blk, off + j, none⟩ = some x := by
 obtain ⟨vs, et, fr, hh, hcs, _, _⟩ := h.obj id _ β hs hβ
 exact ⟨vs.drop off, hcs.drop off, fun j x hj => by rw [cell_heap hh]; simpa using hj⟩
theorem goes_load (h : St w0 m0 N m ι e s a w) {t : TypeId} {x : Operand} (ho : o.op = .load t x) (hx : okX x = true) (hk : opK P l e s o K) : Goes P o a w (Lv w0 m0 N e a K) := by
 simp only [opK, ho] at hk
 have rx := h.at hx
 have fin : ∀ {b off : Nat} {cs : List V} {vs : List Value} {v : V}, a.eval x = .pointer (some ⟨b, off, none⟩) → ldV P t cs = some v → (∀ (j : Nat) x, vs[j]? = some x → w.cell? ⟨b, off + j, none⟩ = some x) → RepL m ι cs vs → K v s →
   Goes P o a w (Lv w0 m0 N e a K) := by
  intro b off cs vs v he hv hm r k
  obtain ⟨y, hy, ry⟩ := run_ldV (P := P) hv hm r
  exact Goes.here h (by simp [execOp, ho, Instr.loadAt, Instr.sureAddr, he, hy]) ry k
 generalize hvx : a.eval x = vx at *
 generalize ev e x = ux at *
 split at hk
 ·rename_i id off
  cases rx with
  | ptr _ _ _ β hβ =>
   rw [at?_eq] at hk
   split at hk
   ·rename_i wr cs hs
    split at hk
    ·rename_i v hv
     obtain ⟨vs, r, hm⟩ := box_cells h hs hβ off
     exact fin rfl hv hm r hk
    ·exact hk.elim
   ·exact hk.elim
 ·rename_i cs
  cases rx with
  | elem _ _ b off g hm hr =>
   split at hk
   ·rename_i v hv
    refine fin (vs := (List.range cs.length).map g) rfl hv ?_ ⟨by simp, ?_⟩ hk
    ·intro j y hj
     simp only [List.getElem?_map, Option.map_eq_some_iff] at hj
     obtain ⟨i, hi, rfl⟩ := hj
     have hlt : j < cs.length := by have := (List.getElem?_eq_some_iff.1 hi).1; simpa using this
     have : i = j := by rw [List.getElem?_range hlt] at hi; exact (Option.some.inj hi).symm
     subst this
     exact h.mok _ _ _ (hm i _ (List.getElem?_eq_getElem hlt))
    ·intro j c y hc hj
     simp only [List.getElem?_map, Option.map_eq_some_iff] at hj
     obtain ⟨i, hi, rfl⟩ := hj
     have hlt := (List.getElem?_eq_some_iff.1 hc).1
     have : i = j := by rw [List.getElem?_range hlt] at hi; exact (Option.some.inj hi).symm
     subst this
     exact (hr i c hc).closed ι
   ·exact hk.elim
 ·rename_i id i off
  cases rx with
  | eptr _ _ _ _ β hβ =>
   rw [at?_eq] at hk
   split at hk
   ·rename_i wr sz els hs
    obtain ⟨⟨hi⟩, hk⟩ := hk
    have hk := hk _ (List.getElem?_eq_getElem hi)
    split at hk
    ·rename_i v hv
     obtain ⟨vs, et, fr, rfl, hh, hvl, hcap, hn, hel, hsz, hcs, _, _, _⟩ := h.obj id _ β hs hβ
     refine fin (vs := (List.range (els[i].drop off).length).map fun j => vs.getD (i * β.sz + (off + j)) undef) rfl hv ?_ ⟨by simp, ?_⟩ hk
     ·intro j y hj
      simp only [List.getElem?_map, Option.map_eq_some_iff] at hj
      obtain ⟨j', hj', rfl⟩ := hj
      have hlt : j < (els[i].drop off).length := by have := (List.getElem?_eq_some_iff.1 hj').1; simpa using this
      have : j' = j := by rw [List.getElem?_range hlt] at hj'; exact (Option.some.inj hj').symm
      subst this
      have hlt2 : off + j' < els[i].length := by simp at hlt; omega
      obtain ⟨z, hz, _⟩ := hcs i (off + j') _ _ (List.getElem?_eq_getElem hi) (List.getElem?_eq_getElem hlt2)
      rw [cell_heap hh, show i * β.sz + off + j' = i * β.sz + (off + j') by omega, hz, List.getD_eq_getElem?_getD, hz, Option.getD_some]
     ·intro j c y hc hj
      simp only [List.getElem?_map, Option.map_eq_some_iff] at hj
      obtain ⟨j', hj', rfl⟩ := hj
      have hlt := (List.getElem?_eq_some_iff.1 hc).1
      have : j' = j := by rw [List.getElem?_range hlt] at hj'; exact (Option.some.inj hj').symm
      subst this
      rw [List.getElem?_drop] at hc
      obtain ⟨z, hz, rz⟩ := hcs i (off + j') _ _ (List.getElem?_eq_getElem hi) hc
      rw [List.getD_eq_getElem?_getD, hz, Option.getD_some]
      exact rz.closed ι
    ·exact hk.elim
   ·exact hk.elim
 ·exact hk.elim
theorem goes_store (h : St w0 m0 N m ι e s a w) {t : TypeId} {x y : Operand} (ho : o.op = .store t x y) (hx : okX x = true) (hy : okX y = true) (hk : opK P l e s o K) : Goes P o a w (Lv w0 m0 N e a K) := by
 simp only [opK, ho] at hk
 have rx := h.at hx
 have ry := h.at hy
 generalize hvx : a.eval x = vx at *
 generalize hvy : a.eval y = vy at *
 generalize ev e x = ux at *
 generalize ev e y = uy at *
 split at hk
 ·rename_i id off new n hnew hn
  have rn := ry.cells hnew
  have leaf1 : new.all leafV = true → ∀ v ∈ vy.cells.toList, v.oneCell' = true := by
   intro hall v hv
   obtain ⟨i, hi, rfl⟩ := List.mem_iff_getElem.1 hv
   have hi' : i < new.length := rn.1 ▸ hi
   exact leafV_one (rn.2 i _ _ (List.getElem?_eq_getElem hi') (List.getElem?_eq_getElem hi)) (List.all_eq_true.1 hall _ (List.getElem_mem hi'))
  cases rx with
  | ptr _ _ _ β hβ =>
   rw [at?_eq] at hk
   split at hk
   ·rename_i cs hs
    split at hk
    ·rename_i h1 h2 h3
     have h1 := Nat.eq_of_beq_eq_true h1
     have h2 := Nat.le_of_ble_eq_true h2
     obtain ⟨vs, et, fr, hh, hcs, hfr, hmn⟩ := h.obj id _ β hs hβ
     have hst := run_stores (P := P) (o := off) vy.cells.toList 0 vs w hh (by rw [← rn.1, ← hcs.1]; simpa using h2) hfr (leaf1 h3)
     have hsz : vy.cells.size = n := by rw [← h1, rn.1]; simp
     have hrun : (execOp a.eval o).run P w = .ok .skip (wset w β.blk (.cells (vs.take off ++ vy.cells.toList ++ vs.drop (off + vy.cells.toList.length)).toArray et fr)) := by
      simp only [execOp, ho, hvx, hvy, Instr.storeAt, Instr.sureAddr, storeVar]
      simp [run_size hn, hsz]
      simpa [hsz] using congrArg (fun r : Result Unit => r.andThen fun _ w' => Result.ok Next.skip w') hst
     unfold Goes
     rw [hrun]
     rw [setAt_eq] at hk
     refine ⟨_, _, m, ι, hk, Rep.tupL (vs := []) (RepL.nil m ι), ?_⟩
     refine h.write hs hβ (by simp) (by simp) (hmn rfl) ⟨vs.take off ++ vy.cells.toList ++ vs.drop (off + vy.cells.toList.length), et, fr, ?_, hcs.splice rn off, ?_, fun _ => hmn rfl⟩
     ·rw [wset_heap, if_pos rfl, if_pos (h.own id _ β hs hβ (by simp)).2]
     ·intro i hi
      apply hfr i
      have : (vs.take off ++ vy.cells.toList ++ vs.drop (off + vy.cells.toList.length)).length = vs.length := by
       simp only [List.length_append, List.length_take, List.length_drop, ← rn.1, ← hcs.1]
       omega
      rw [this] at hi
      exact hi
    ·exact hk.elim
   ·exact hk.elim
 ·rename_i id i off new n hnew hn
  have rn := ry.cells hnew
  have leaf1 : new.all leafV = true → ∀ v ∈ vy.cells.toList, v.oneCell' = true := by
   intro hall v hv
   obtain ⟨i, hi, rfl⟩ := List.mem_iff_getElem.1 hv
   have hi' : i < new.length := rn.1 ▸ hi
   exact leafV_one (rn.2 i _ _ (List.getElem?_eq_getElem hi') (List.getElem?_eq_getElem hi)) (List.all_eq_true.1 hall _ (List.getElem_mem hi'))
  cases rx with
  | eptr _ _ _ _ β hβ =>
   rw [at?_eq] at hk
   split at hk
   ·rename_i sz els hs
    obtain ⟨⟨hi⟩, hk⟩ := hk
    have hk := hk _ (List.getElem?_eq_getElem hi)
    split at hk
    ·rename_i h1 h2 h3
     have h1 := Nat.eq_of_beq_eq_true h1
     have h2 := Nat.le_of_ble_eq_true h2
     obtain ⟨vs, et, fr, rfl, hh, hvl, hcap, hnn, hel, hsz, hcs, ⟨hfo, hfr⟩, hml, hmn⟩ := h.obj id _ β hs hβ
     have hes := hsz _ (List.getElem_mem hi)
     have hin : i * β.sz + β.sz ≤ vs.length := by
      rw [hvl]
      have : (i + 1) * β.sz ≤ β.cap * β.sz := Nat.mul_le_mul_right _ (by omega)
      rwa [Nat.add_mul, Nat.one_mul] at this
     have hst := run_stores (P := P) (o := i * β.sz + off) vy.cells.toList 0 vs w hh (by rw [← rn.1]; omega) hfr (leaf1 h3)
     have hsz' : vy.cells.size = n := by rw [← h1, rn.1]; simp
     have hrun : (execOp a.eval o).run P w = .ok .skip (wset w β.blk (.cells (vs.take (i * β.sz + off) ++ vy.cells.toList ++ vs.drop (i * β.sz + off + vy.cells.toList.length)).toArray et fr)) := by
      simp only [execOp, ho, hvx, hvy, Instr.storeAt, Instr.sureAddr, storeVar]
      simp [run_size hn, hsz']
      simpa [hsz'] using congrArg (fun r : Result Unit => r.andThen fun _ w' => Result.ok Next.skip w') hst
     have hlen : (vs.take (i * β.sz + off) ++ vy.cells.toList ++ vs.drop (i * β.sz + off + vy.cells.toList.length)).length = vs.length := by
      simp only [List.length_append, List.length_take, List.length_drop, ← rn.1]
      omega
     unfold Goes
     rw [hrun]
     simp only [setAt_eq] at hk
     refine ⟨_, _, m, ι, hk, Rep.tupL (vs := []) (RepL.nil m ι), ?_⟩
     refine h.write hs hβ (by simp) (by simp) (hmn rfl) ⟨_, et, fr, rfl, by rw [wset_heap, if_pos rfl, if_pos (h.own id _ β hs hβ (by simp)).2], by rw [hlen]; exact hvl, by simpa using hcap, by simpa using hnn, by simpa using hel, ?_, ?_, ⟨hfo, fun k hk => hfr k (hlen ▸ hk)⟩, fun k _ => hmn rfl k, fun _ => hmn rfl⟩
     ·intro el hel'
      rcases List.mem_or_eq_of_mem_set hel' with q | q
      ·exact hsz el q
      ·subst q
       have hl := rn.1
       simp only [Ab.splice, List.length_append, List.length_take, List.length_drop, List.length_map]
       omega
     ·intro i' j el c hi' hj
      rw [List.getElem?_set] at hi'
      have rn0 : RepL m [] (new.map (ren 8 [])) vy.cells.toList := ⟨by simpa using rn.1, fun k c z hc hz => by
       simp only [List.getElem?_map, Option.map_eq_some_iff] at hc
       obtain ⟨c', hc', rfl⟩ := hc
       exact Rep.renamed (κ := []) (g := []) (by simp) 8 _ _ (rn.2 k c' z hc' hz)⟩
      have old : ∀ {k j : Nat} {el : List V} {c : V}, els[k]? = some el → el[j]? = some c → (k * β.sz + j < i * β.sz + off ∨ i * β.sz + off + new.length ≤ k * β.sz + j) →
        ∃ x, (vs.take (i * β.sz + off) ++ vy.cells.toList ++ vs.drop (i * β.sz + off + vy.cells.toList.length))[k * β.sz + j]? = some x ∧ Rep m [] c x := by
       intro k j el c hk hj hor
       obtain ⟨x, hx, rx⟩ := hcs k j el c hk hj
       refine ⟨x, ?_, rx⟩
       have hlt := (List.getElem?_eq_some_iff.1 hx).1
       have hnl := rn.1
       rcases hor with q | q
       ·rw [List.append_assoc, List.getElem?_append_left (by rw [List.length_take]; omega), List.getElem?_take, if_pos q]
        exact hx
       ·rw [List.getElem?_append_right (by simp only [List.length_append, List.length_take]; omega), List.getElem?_drop]
        rw [← hx]
        congr 1
        simp only [List.length_append, List.length_take]
        omega
      split at hi'
      ·rename_i hii
       subst hii
       obtain rfl := Option.some.inj hi'
       have hnl := rn.1
       by_cases q : off ≤ j ∧ j < off + new.length
       ·obtain ⟨z, hz, rz⟩ := rn0.get (i := j - off) (c := c) (by
         unfold Ab.splice at hj
         rw [List.append_assoc, List.getElem?_append_right (by rw [List.length_take]; omega), List.getElem?_append_left (by simp only [List.length_take, List.length_map]; omega)] at hj
         rw [← hj]
         congr 1
         rw [List.length_take]
         omega)
        refine ⟨z, ?_, rz⟩
        rw [List.append_assoc, List.getElem?_append_right (by rw [List.length_take]; omega), List.getElem?_append_left (by simp only [List.length_take]; omega)]
        rw [← hz]
        congr 1
        rw [List.length_take]
        omega
       ·have hj' : els[i][j]? = some c := by
         unfold Ab.splice at hj
         rcases Nat.lt_or_ge j off with hjo | hjo
         ·rw [List.append_assoc, List.getElem?_append_left (by rw [List.length_take]; omega), List.getElem?_take, if_pos hjo] at hj
          exact hj
         ·rw [List.getElem?_append_right (by simp only [List.length_append, List.length_take, List.length_map]; omega), List.getElem?_drop] at hj
          rw [← hj]
          congr 1
          simp only [List.length_append, List.length_take, List.length_map]
          omega
        have hjl := (List.getElem?_eq_some_iff.1 hj').1
        exact old (List.getElem?_eq_getElem hi) hj' (by omega)
      ·rename_i hii
       have hjl := (List.getElem?_eq_some_iff.1 hj).1
       have hel' := hsz _ (List.mem_of_getElem? hi')
       refine old hi' hj ?_
       rcases Nat.lt_or_gt_of_ne hii with q | q
       ·have : (i + 1) * β.sz ≤ i' * β.sz := Nat.mul_le_mul_right _ q
        rw [Nat.add_mul, Nat.one_mul] at this
        omega
       ·have : (i' + 1) * β.sz ≤ i * β.sz := Nat.mul_le_mul_right _ q
        rw [Nat.add_mul, Nat.one_mul] at this
        omega
    ·exact hk.elim
   ·exact hk.elim
 ·exact hk.elim
end
end Go.Proofs.YtcbknemdidehlaaGreatDoor.Ab
namespace Go.Proofs.YtcbknemdidehlaaGreatDoor.Ab
open Go.RowKit
set_option linter.unusedVariables false
set_option linter.unusedSimpArgs false
section
variable {l : Bool} {P : Program} {w0 : Base} {m0 : Mem} {N : Nat} {m : Mem} {ι : List Blk} {e : Env} {s : List O} {a : Act} {w : World} {o : Oper} {K : V → List O → Prop}
theorem notNil_inv {v : V} {x : Value} (h : Rep m ι v x) (hn : notNil v = true) : (∃ b, x = .pointer (some b)) ∨ ∃ f va vb, x = .func (.func f) va vb := by
 cases h <;> simp_all [notNil]
theorem goes_nilCheck (h : St w0 m0 N m ι e s a w) {x : Operand} (ho : o.op = .nilCheck x) (hx : okX x = true) (hk : opK P l e s o K) : Goes P o a w (Lv w0 m0 N e a K) := by
 simp only [opK, ho] at hk
 have rx := h.at hx
 split at hk
 ·rename_i hn
  rcases notNil_inv rx hn with ⟨b, hb⟩ | ⟨f, va, vb, hb⟩
  ·exact Goes.here h (by simp [execOp, ho, hb]) (hb ▸ rx) hk
  ·exact Goes.here h (by simp [execOp, ho, hb]) (hb ▸ rx) hk
 ·exact hk.elim
theorem goes_unOp (h : St w0 m0 N m ι e s a w) {op : UnOp} {t : TypeId} {x : Operand} (ho : o.op = .unOp op t x) (hx : okX x = true) (hk : opK P l e s o K) : Goes P o a w (Lv w0 m0 N e a K) := by
 simp only [opK, ho] at hk
 have rx := h.at hx
 generalize hvx : a.eval x = vx at *
 generalize ev e x = ux at *
 unfold unK at hk
 split at hk
 ·rename_i k n
  obtain ⟨rfl, hp⟩ := rx.int_inv
  exact Goes.here h (x := .int k (k.wrap (0 - n))) (by simp [execOp, ho, hvx, Op.unary, Op.intArith]) (wrapR _ _) hk
 ·obtain rfl := rx.bool_inv
  exact Goes.here h (by simp [execOp, ho, hvx, Op.unary]) (.bool _ _) hk
 ·exact hk.elim
theorem goes_makeInterface (h : St w0 m0 N m ι e s a w) {t : TypeId} {x : Operand} (ho : o.op = .makeInterface t x) (hx : okX x = true) (hk : opK P l e s o K) : Goes P o a w (Lv w0 m0 N e a K) := by
 simp only [opK, ho] at hk
 have rx := h.at hx
 split at hk
 ·exact hk.elim
 ·rename_i d hd hu
  refine Goes.here h ?_ (.iface _ t _ _ rx) hk
  simp only [execOp, ho, Instr.makeInterface, Sem.run_bind, run_und hu, Result.andThen_ok]
  cases d <;> first
   | exact absurd rfl (hd _)
   | simp
 ·exact hk.elim
theorem goes_typeAssert (h : St w0 m0 N m ι e s a w) {xt t : TypeId} {ok : Bool} {x : Operand} (ho : o.op = .typeAssert x xt t ok) (hx : okX x = true) (hz : zOk P t = true) (hk : opK P l e s o K) : Goes P o a w (Lv w0 m0 N e a K) := by
 simp only [opK, ho] at hk
 have rx := h.at hx
 generalize hvx : a.eval x = vx at *
 generalize ev e x = ux at *
 split at hk
 ·exact hk.elim
 ·rename_i d hd hu
  have hni : ∀ ms, d ≠ .interface ms := fun ms z => hd ms z
  have two : ∀ {v : V} {y : Value} (b : Bool), Rep m ι v y → Rep m ι (.tup [v, .bool b]) (.tuple #[y, .bool b]) := fun b r => Rep.tupL (vs := [_, _]) ((RepL.nil m ι).cons (.bool ι b) |>.cons r)
  split at hk
  ·rename_i tt v
   cases rx with
   | iface _ _ _ y ry =>
    split at hk
    ·rename_i hq
     have hq := Nat.eq_of_beq_eq_true hq
     subst hq
     split at hk
     ·refine Goes.here h ?_ (two true ry) hk
      simp only [execOp, ho, hvx, Instr.typeAssert, Sem.run_bind, run_und hu, Result.andThen_ok]
      cases d <;> first
       | exact absurd rfl (hni _)
       | simp
     ·refine Goes.here h ?_ ry hk
      simp only [execOp, ho, hvx, Instr.typeAssert, Sem.run_bind, run_und hu, Result.andThen_ok]
      cases d <;> first
       | exact absurd rfl (hni _)
       | simp
    ·rename_i hq
     have hne : ¬ tt = t := fun z => by subst z; simp at hq
     split at hk
     ·rename_i z hz0
      obtain ⟨zv, hzv, rfl, hok⟩ := run_zero (w := w) hz0 hz
      refine Goes.here h ?_ (two false (ofC_rep m ι zv hok)) hk
      simp only [execOp, ho, hvx, Instr.typeAssert, Sem.run_bind, run_und hu, Result.andThen_ok]
      cases d <;> first
       | exact absurd rfl (hni _)
       | simp [hne, hzv]
     ·exact hk.elim
  ·cases rx with
   | nilI =>
    split at hk
    ·rename_i z hz0
     obtain ⟨zv, hzv, rfl, hok⟩ := run_zero (w := w) hz0 hz
     refine Goes.here h ?_ (two false (ofC_rep m ι zv hok)) hk
     simp only [execOp, ho, hvx, Instr.typeAssert, Sem.run_bind, run_und hu, Result.andThen_ok]
     cases d <;> first
      | exact absurd rfl (hni _)
      | simp [hzv]
    ·exact hk.elim
  ·exact hk.elim
 ·exact hk.elim
theorem ats (h : St w0 m0 N m ι e s a w) {xs : Array Operand} (hx : xs.toList.all okX = true) : RepL m ι (xs.toList.map (ev e)) (xs.map a.eval).toList := by
 rw [Array.toList_map]
 exact RepL.map _ _ _ fun x hx' => h.at (List.all_eq_true.1 hx x hx')
theorem goes_makeFunc (h : St w0 m0 N m ι e s a w) {fn : Fn} {xs ys : Array Operand} (ho : o.op = .makeFunc fn xs ys) (hx : xs.toList.all okX = true) (hy : ys.toList.all okX = true) (hk : opK P l e s o K) : Goes P o a w (Lv w0 m0 N e a K) := by
 simp only [opK, ho] at hk
 split at hk
 ·rename_i f
  have r1 := ats h hx
  have r2 := ats h hy
  have r := Rep.fn (m := m) ι f _ _ _ _ r1.1 r2.1 r1.2 r2.2
  rw [Array.toArray_toList, Array.toArray_toList] at r
  exact Goes.here h (by simp [execOp, ho, Instr.makeFunc]) r hk
 ·exact hk.elim
theorem goes_extract (h : St w0 m0 N m ι e s a w) {x : Operand} {i : Nat} (ho : o.op = .extract x i) (hx : okX x = true) (hk : opK P l e s o K) : Goes P o a w (Lv w0 m0 N e a K) := by
 simp only [opK, ho] at hk
 have rx := h.at hx
 generalize hvx : a.eval x = vx at *
 generalize ev e x = ux at *
 split at hk
 ·rename_i vs
  obtain ⟨xs, rfl, r⟩ := rx.tup_inv
  rw [at?_eq] at hk
  split at hk
  ·rename_i v hv
   obtain ⟨y, hy, ry⟩ := r.get hv
   refine Goes.here h ?_ ry hk
   simp [execOp, ho, hvx, Instr.extract, hy]
  ·exact hk.elim
 ·exact hk.elim
theorem run_part2 {t : TypeId} {cs : List V} {v : V} {off : Nat} (hv : ldV P t (cs.drop off) = some v) {vs : List Value} (r : RepL m ι cs vs) (w : World) : ∃ x, (part t vs.toArray off).run P w = .ok x w ∧ Rep m ι v x := by
 unfold ldV at hv
 split at hv
 ·rename_i n hA hn
  split at hv
  ·obtain rfl := Option.some.inj hv
   refine ⟨_, ?_, Rep.aggL ((r.drop off).take n)⟩
   simp [part, run_isAgg hA, run_size hn, List.take_drop, Nat.add_comm]
  ·cases hv
 ·rename_i hA
  rw [List.head?_drop] at hv
  obtain ⟨x, hx, rx⟩ := r.get hv
  exact ⟨x, run_part hA (by simpa using hx) w, rx⟩
 ·cases hv
theorem goes_field (h : St w0 m0 N m ι e s a w) {t : TypeId} {x : Operand} {i : Nat} (ho : o.op = .field t x i) (hx : okX x = true) (hk : opK P l e s o K) : Goes P o a w (Lv w0 m0 N e a K) := by
 simp only [opK, ho] at hk
 have rx := h.at hx
 generalize hvx : a.eval x = vx at *
 generalize ev e x = ux at *
 split at hk
 ·rename_i fs cs hu
  obtain ⟨xs, rfl, r⟩ := rx.agg_inv
  split at hk
  ·rename_i f hf
   split at hk
   ·rename_i v hv
    obtain ⟨y, hy, ry⟩ := run_part2 (P := P) hv r w
    refine Goes.here h ?_ ry hk
    simp [execOp, ho, hvx, Instr.field, run_und hu, hf, asAgg, hy]
   ·exact hk.elim
  ·exact hk.elim
 ·exact hk.elim
theorem goes_fieldAddr (h : St w0 m0 N m ι e s a w) {t : TypeId} {x : Operand} {i : Nat} (ho : o.op = .fieldAddr t x i) (hx : okX x = true) (hk : opK P l e s o K) : Goes P o a w (Lv w0 m0 N e a K) := by
 simp only [opK, ho] at hk
 have rx := h.at hx
 generalize hvx : a.eval x = vx at *
 generalize ev e x = ux at *
 split at hk
 ·rename_i fs hu
  split at hk
  ·rename_i f hf
   split at hk
   ·rename_i n hn
    have fin : ∀ {b off : Nat} {v : V}, vx = .pointer (some ⟨b, off, none⟩) → Rep m ι v (.pointer (some ⟨b, off + f.offset, none⟩)) → K v s → Goes P o a w (Lv w0 m0 N e a K) := by
     intro b off v hv r k
     refine Goes.here h ?_ r k
     subst hv
     simp [execOp, ho, hvx, Instr.fieldAt, run_und hu, hf, Instr.sureAddr, fieldPlace, run_size hn, addr_add]
    split at hk
    ·rename_i id off
     cases rx with
     | ptr _ _ _ β hβ => rw [litK_eq] at hk; exact fin rfl (.ptr _ id _ β hβ) hk
    ·rename_i id j off
     cases rx with
     | eptr _ _ _ _ β hβ => rw [litK_eq] at hk; exact fin rfl (by have := Rep.eptr (m := m) ι id j (off + f.offset) β hβ; rwa [← Nat.add_assoc] at this) hk
    ·rename_i cs
     cases rx with
     | elem _ _ b off g hm hr =>
      refine fin rfl (.elem _ _ b _ (fun j => g (f.offset + j)) ?_ ?_) hk
      ·intro j c hj
       rw [List.getElem?_drop] at hj
       rw [Nat.add_assoc]
       exact hm _ c hj
      ·intro j c hj
       rw [List.getElem?_drop] at hj
       exact hr _ c hj
    ·exact hk.elim
   ·exact hk.elim
  ·exact hk.elim
 ·exact hk.elim
theorem bytes_get {b : ByteArray} {i : Nat} {c : UInt8} : b[i]? = some c ↔ b.data.toList[i]? = some c := by
 rw [Array.getElem?_toList]
 rfl
theorem u8_wrap (c : UInt8) : IntKind.u8.wrap (c.toNat : Int) = c.toNat := by
 have := c.toNat_lt
 rw [wrap_iff]
 simp only [kLo, kHi]
 omega
theorem goes_index (h : St w0 m0 N m ι e s a w) {t : TypeId} {x y : Operand} (ho : o.op = .index t x y) (hx : okX x = true) (hy : okX y = true) (hk : opK P l e s o K) : Goes P o a w (Lv w0 m0 N e a K) := by
 simp only [opK, ho] at hk
 have rx := h.at hx
 have ry := h.at hy
 generalize hvx : a.eval x = vx at *
 generalize hvy : a.eval y = vy at *
 generalize ev e x = ux at *
 generalize ev e y = uy at *
 split at hk
 ·rename_i b k n hu
  obtain ⟨rfl, hb⟩ := rx.str_inv
  obtain ⟨rfl, hn⟩ := ry.int_inv
  obtain ⟨⟨h1⟩, hk⟩ := hk
  have hlt : n.toNat < b.size := by omega
  have hc : b[n.toNat]? = some b[n.toNat] := getElem?_pos b n.toNat hlt
  refine Goes.here h ?_ (.int _ _ _ (u8_wrap _)) (hk _ hc)
  simp [execOp, ho, hvx, hvy, Instr.index, asIntOf, run_und hu, h1.1, hc]
 ·rename_i len el cs k n hu
  obtain ⟨xs, rfl, r⟩ := rx.agg_inv
  obtain ⟨rfl, hn⟩ := ry.int_inv
  split at hk
  ·rename_i z hz
   obtain ⟨⟨h1⟩, ⟨h2⟩, hk⟩ := hk
   obtain ⟨v, hv⟩ := Option.isSome_iff_exists.1 h2
   obtain ⟨y, hy2, ry2⟩ := run_part2 (P := P) hv r w
   refine Goes.here h ?_ ry2 (hk v hv)
   simp [execOp, ho, hvx, hvy, Instr.index, asIntOf, run_und hu, h1, run_size hz, hy2]
  ·exact hk.elim
 ·exact hk.elim
theorem goes_indexAddr (h : St w0 m0 N m ι e s a w) {t : TypeId} {x y : Operand} (ho : o.op = .indexAddr t x y) (hx : okX x = true) (hy : okX y = true) (hk : opK P l e s o K) : Goes P o a w (Lv w0 m0 N e a K) := by
 simp only [opK, ho] at hk
 have rx := h.at hx
 have ry := h.at hy
 generalize hvx : a.eval x = vx at *
 generalize hvy : a.eval y = vy at *
 generalize ev e x = ux at *
 generalize ev e y = uy at *
 split at hk
 ·rename_i el xx els k n hu
  obtain ⟨rfl, hn⟩ := ry.int_inv
  cases rx with
  | row _ _ _ p cap sz b off g hx1 hc1 hl1 hs1 ha1 hm1 hr1 =>
   split at hk
   ·rename_i z hz
    obtain ⟨⟨h1⟩, hk⟩ := hk
    have hlt : n.toNat < els.length := by omega
    obtain ⟨⟨h2⟩, hk2⟩ := hk _ (List.getElem?_eq_getElem hlt)
    have hsz : sz = z := (hs1 _ (List.getElem_mem hlt)).symm.trans h2
    subst hsz
    obtain rfl := ha1 (fun q => by rw [q] at hlt; simp at hlt)
    refine Goes.here h (x := .pointer (some ⟨b, off + n.toNat * sz, none⟩)) ?_ (.elem _ _ b _ (fun j => g n.toNat j) ?_ ?_) hk2
    ·simp [execOp, ho, hvx, hvy, Instr.indexAt, asIntOf, run_und hu, h1, run_size hz, addr_add]
    ·intro j c hj
     exact hm1 _ j _ c (List.getElem?_eq_getElem hlt) hj
    ·intro j c hj
     exact hr1 _ j _ c (List.getElem?_eq_getElem hlt) hj
   ·exact hk.elim
 ·rename_i el id off len k n hu
  obtain ⟨rfl, hn⟩ := ry.int_inv
  cases rx with
  | sl _ _ _ _ p cap β hβ hl hc hnn hb ha =>
   rw [at?_eq] at hk
   split at hk
   ·rename_i wr sz els z hs hz
    split at hk
    ·rename_i hq
     have hq := Nat.eq_of_beq_eq_true hq
     subst hq
     obtain ⟨⟨h1⟩, hk⟩ := hk
     obtain rfl := ha (by omega)
     obtain ⟨vs, et, fr, hsz, _⟩ := h.obj id _ β hs hβ
     have hr := Rep.eptr (m := m) ι id (off + n.toNat) 0 β hβ
     refine Goes.here h (x := .pointer (some ⟨β.blk, (off + n.toNat) * β.sz + 0, none⟩)) ?_ hr hk
     simp [execOp, ho, hvx, hvy, Instr.indexAt, asIntOf, run_und hu, h1, run_size hz, addr_add, hsz, Nat.add_mul]
    ·exact hk.elim
   ·exact hk.elim
 ·rename_i len el id off k n hu
  obtain ⟨rfl, hn⟩ := ry.int_inv
  cases rx with
  | ptr _ _ _ β hβ =>
   split at hk
   ·rename_i z hz
    obtain ⟨⟨h1⟩, hk⟩ := hk
    refine Goes.here h (x := .pointer (some ⟨β.blk, off + n.toNat * z, none⟩)) ?_ (.ptr _ id _ β hβ) hk
    simp [execOp, ho, hvx, hvy, Instr.indexAt, asIntOf, run_und hu, h1, run_size hz, addr_add, Instr.sureAddr]
   ·exact hk.elim
 ·rename_i len el cs k n hu
  obtain ⟨rfl, hn⟩ := ry.int_inv
  cases rx with
  | elem _ _ b off g hm hr =>
   split at hk
   ·rename_i z hz
    obtain ⟨⟨h1⟩, hk⟩ := hk
    refine Goes.here h (x := .pointer (some ⟨b, off + n.toNat * z, none⟩)) ?_ (.elem _ _ b _ (fun j => g (n.toNat * z + j)) ?_ ?_) hk
    ·simp [execOp, ho, hvx, hvy, Instr.indexAt, asIntOf, run_und hu, h1, run_size hz, addr_add, Instr.sureAddr]
    ·intro j c hj
     rw [List.getElem?_drop] at hj
     rw [Nat.add_assoc]
     exact hm _ c hj
    ·intro j c hj
     rw [List.getElem?_drop] at hj
     exact hr _ c hj
   ·exact hk.elim
 ·exact hk.elim
end
end Go.Proofs.YtcbknemdidehlaaGreatDoor.Ab
namespace Go.Proofs.YtcbknemdidehlaaGreatDoor.Ab
open Go.RowKit
set_option linter.unusedVariables false
set_option linter.unusedSimpArgs false
structure Flat (m : Mem) (sz : Nat) (els : List (List V)) (vs : List Value) : Prop where
 len : vs.length = els.length * sz
 each : ∀ el ∈ els, el.length = sz
 rep : ∀ (i j : Nat) el c, els[i]? = some el → el[j]? = some c → ∃ x, vs[i * sz + j]? = some x ∧ Rep m [] c x
theorem Flat.nil (m : Mem) (sz : Nat) : Flat m sz [] [] := ⟨by simp, by simp, by simp⟩
theorem Flat.append {m : Mem} {sz : Nat} {a b : List (List V)} {va vb : List Value} (h : Flat m sz a va) (k : Flat m sz b vb) : Flat m sz (a ++ b) (va ++ vb) :=
 ⟨by simp only [List.length_append, h.len, k.len, Nat.add_mul], fun el he => (List.mem_append.1 he).elim (h.each el) (k.each el), fun i j el c hi hj => by
  have hjl := (List.getElem?_eq_some_iff.1 hj).1
  rcases Nat.lt_or_ge i a.length with q | q
  ·rw [List.getElem?_append_left q] at hi
   obtain ⟨x, hx, rx⟩ := h.rep i j el c hi hj
   exact ⟨x, by rw [List.getElem?_append_left (List.getElem?_eq_some_iff.1 hx).1]; exact hx, rx⟩
  ·rw [List.getElem?_append_right q] at hi
   obtain ⟨x, hx, rx⟩ := k.rep _ j el c hi hj
   refine ⟨x, ?_, rx⟩
   have e1 : i * sz = a.length * sz + (i - a.length) * sz := by rw [← Nat.add_mul]; congr 1; omega
   rw [List.getElem?_append_right (by rw [h.len]; omega), h.len, e1, ← hx]
   congr 1
   omega⟩
theorem Flat.mono {m m' : Mem} (hm : m.le m') {sz : Nat} {els : List (List V)} {vs : List Value} (h : Flat m sz els vs) : Flat m' sz els vs :=
 ⟨h.len, h.each, fun i j el c hi hj => let ⟨x, hx, rx⟩ := h.rep i j el c hi hj; ⟨x, hx, rx.mono hm⟩⟩
theorem Flat.part {m : Mem} {sz : Nat} {els : List (List V)} {vs : List Value} (h : ∀ (i j : Nat) el c, els[i]? = some el → el[j]? = some c → ∃ x, vs[i * sz + j]? = some x ∧ Rep m [] c x) (hs : ∀ el ∈ els, el.length = sz)
  (hl : els.length * sz ≤ vs.length) (off len : Nat) (ho : off + len ≤ els.length) : Flat m sz ((els.drop off).take len) ((vs.drop (off * sz)).take (len * sz)) := by
 have h2 : (off + len) * sz ≤ els.length * sz := Nat.mul_le_mul_right _ ho
 rw [Nat.add_mul] at h2
 refine ⟨?_, fun el he => hs el (List.mem_of_mem_drop (List.mem_of_mem_take he)), fun i j el c hi hj => ?_⟩
 ·simp only [List.length_take, List.length_drop]
  rw [Nat.min_eq_left (show len * sz ≤ vs.length - off * sz by omega), Nat.min_eq_left (by omega)]
 ·rw [List.getElem?_take] at hi
  split at hi
  ·rename_i hil
   rw [List.getElem?_drop] at hi
   obtain ⟨x, hx, rx⟩ := h (off + i) j el c hi hj
   refine ⟨x, ?_, rx⟩
   have hjl := (List.getElem?_eq_some_iff.1 hj).1
   have hes := hs el (List.mem_of_getElem? hi)
   have : (i + 1) * sz ≤ len * sz := Nat.mul_le_mul_right _ hil
   rw [Nat.add_mul, Nat.one_mul] at this
   rw [List.getElem?_take, if_pos (by omega), List.getElem?_drop, ← hx]
   congr 1
   rw [Nat.add_mul]
   omega
  ·cases hi
section
variable {l : Bool} {P : Program} {w0 : Base} {m0 : Mem} {N : Nat} {m : Mem} {ι : List Blk} {e : Env} {s : List O} {a : Act} {w : World} {o : Oper} {K : V → List O → Prop}
structure Src (P : Program) (w : World) (v : Value) (n sz : Nat) (vs : List Value) : Prop where
 len : ∀ k, (Builtin.lenOf v).run P { w with drawn := k } = .ok n { w with drawn := k }
 cells : ∀ k, (Builtin.firstCells sz n v).run P { w with drawn := k } = .ok vs.toArray { w with drawn := k }
theorem src_slice {b o len cap sz : Nat} {vs : List Value} (hl : vs.length = len * sz) (hm : ∀ (j : Nat) x, vs[j]? = some x → w.cell? ⟨b, o + j, none⟩ = some x) : Src P w (.slice (some ⟨b, o, none⟩) len cap) len sz vs :=
 ⟨fun k => by simp [Builtin.lenOf], fun k => by
  simp only [Builtin.firstCells]
  rw [← hl]
  exact run_loadCells_list (P := P) { w with drawn := k } ⟨b, o, none⟩ vs (fun j x hj => by rw [addr_add]; exact hm j x hj)⟩
theorem src_none {a : Option Addr} {cap sz : Nat} : Src P w (.slice a 0 cap) 0 sz [] :=
 ⟨fun k => by simp [Builtin.lenOf], fun k => by
  cases a <;> simp [Builtin.firstCells, loadCells, loadCellsFrom]⟩
theorem src_string {b : ByteArray} : Src P w (.string b) b.size 1 (b.data.toList.map fun c => .int .u8 c.toNat) :=
 ⟨fun k => by simp [Builtin.lenOf], fun k => by
  simp only [Builtin.firstCells, Sem.run_pure]
  congr 1
  rw [show b.extract 0 b.size = b by simp]
  apply Array.ext'
  simp⟩
theorem flat_bytes (m : Mem) (b : ByteArray) : Flat m 1 (b.data.toList.map fun c => [V.int .u8 c.toNat]) (b.data.toList.map fun c => .int .u8 c.toNat) :=
 ⟨by simp, by simp, fun i j el c hi hj => by
  simp only [List.getElem?_map, Option.map_eq_some_iff] at hi
  obtain ⟨u, hu, rfl⟩ := hi
  cases j with
  | zero =>
   simp at hj
   subst hj
   exact ⟨.int .u8 u.toNat, by simp [hu], .int _ _ _ (u8_wrap u)⟩
  | succ j => simp at hj⟩
theorem row_cells {x : Bool} {els : List (List V)} {v : Value} (h : Rep m ι (.row x els) v) (hm : m.ok w) {sz : Nat} (hs : ∀ el ∈ els, el.length = sz) :
  ∃ (vs : List Value) (a : Option Addr) (cap : Nat), v = .slice a els.length cap ∧ els.length ≤ cap ∧ (x = true → cap = els.length) ∧ els.length ≤ 9223372036854775807 ∧ Flat m sz els vs ∧ Src P w v els.length sz vs ∧
   (els ≠ [] → ∃ b o, a = some ⟨b, o, none⟩ ∧ ∀ (j : Nat) y, vs[j]? = some y → w.cell? ⟨b, o + j, none⟩ = some y) := by
 cases h with
 | row _ _ _ p cap sz' b off g hx1 hc1 hl1 hs1 ha1 hm1 hr1 =>
  by_cases hne : els = []
  ·subst hne
   exact ⟨[], p, cap, rfl, hc1, hx1, hl1, Flat.nil m sz, src_none, fun z => absurd rfl z⟩
  ·have hsz : sz' = sz := by
    obtain ⟨el, hel⟩ := List.exists_mem_of_ne_nil els hne
    exact (hs1 el hel).symm.trans (hs el hel)
   subst hsz
   obtain rfl := ha1 hne
   have hcell : ∀ (k : Nat), k < els.length * sz' → m b (off + k) = some (g (k / sz') (k % sz')) := by
    intro k hk
    have hz : 0 < sz' := by
     rcases Nat.eq_zero_or_pos sz' with q | q
     ·subst q; simp at hk
     ·exact q
    have h1 : k / sz' < els.length := by rw [Nat.div_lt_iff_lt_mul hz]; exact hk
    have h2 : k % sz' < (els[k / sz']).length := by rw [hs1 _ (List.getElem_mem h1)]; exact Nat.mod_lt _ hz
    have := hm1 (k / sz') (k % sz') _ _ (List.getElem?_eq_getElem h1) (List.getElem?_eq_getElem h2)
    rw [← this]
    congr 1
    have := Nat.div_add_mod k sz'
    rw [Nat.mul_comm] at this
    omega
   have hcells : ∀ (j : Nat) y, ((List.range (els.length * sz')).map fun k => g (k / sz') (k % sz'))[j]? = some y → w.cell? ⟨b, off + j, none⟩ = some y := by
    intro j y hj
    simp only [List.getElem?_map, Option.map_eq_some_iff] at hj
    obtain ⟨k, hk, rfl⟩ := hj
    have hlt : j < els.length * sz' := by have := (List.getElem?_eq_some_iff.1 hk).1; simpa using this
    have : k = j := by rw [List.getElem?_range hlt] at hk; exact (Option.some.inj hk).symm
    subst this
    exact hm _ _ _ (hcell k hlt)
   refine ⟨(List.range (els.length * sz')).map fun k => g (k / sz') (k % sz'), _, cap, rfl, hc1, hx1, hl1, ⟨by simp, hs1, ?_⟩, src_slice (by simp) hcells, fun _ => ⟨b, off, rfl, hcells⟩⟩
   intro i j el c hi hj
   have hil := (List.getElem?_eq_some_iff.1 hi).1
   have hjl := (List.getElem?_eq_some_iff.1 hj).1
   rw [hs1 el (List.mem_of_getElem? hi)] at hjl
   have hk : i * sz' + j < els.length * sz' := by
    have : (i + 1) * sz' ≤ els.length * sz' := Nat.mul_le_mul_right _ hil
    rw [Nat.add_mul, Nat.one_mul] at this
    omega
   refine ⟨g i j, ?_, hr1 i j el c hi hj⟩
   rw [List.getElem?_map, List.getElem?_range hk, Option.map_some]
   have e1 : (i * sz' + j) / sz' = i := by
    rw [Nat.add_comm, Nat.add_mul_div_right _ _ (by omega), Nat.div_eq_of_lt hjl, Nat.zero_add]
   have e2 : (i * sz' + j) % sz' = j := by
    rw [Nat.add_comm, Nat.add_mul_mod_self_right, Nat.mod_eq_of_lt hjl]
   rw [e1, e2]
theorem run_grow {t u ty el : TypeId} {i : TypeInfo} {z : Value} {du : TypeDesc} (ht : P.underlying t = some (.slice el)) (hu : P.underlying u = some du) (hni : ∀ k, du ≠ .int k) (hi : P.info? el = some i) (hz : i.zero = some z)
  {base : Option Addr} {sLen sCap n : Nat} {y : Value} {olds news : List Value} (h1 : ∀ k, (Builtin.firstCells i.size sLen (.slice base sLen sCap)).run P { w with drawn := k } = .ok olds.toArray { w with drawn := k }) (h2 : Src P w y n i.size news)
  (hg : sCap < sLen + n) (hb : (sLen + n) * bnd i.bytes ≤ 140737488355327) :
  ∃ c rest, sLen + n ≤ c ∧ rest.length = (c - (sLen + n)) * z.cells.size ∧ (Builtin.append_ #[t, u] ty #[.slice base sLen sCap, y]).run P w =
   .ok (.slice (some ⟨w.heap.size, 0, none⟩) (sLen + n) c) (wnew { w with drawn := w.drawn + 1 } (olds ++ news ++ rest) el) := by
 have hn : ¬ (sLen + n ≤ sCap) := by omega
 have hb1 : (sLen + n) * i.bytes ≤ 140737488355327 := Nat.le_trans (Nat.mul_le_mul_left _ (bnd_le _)) hb
 have hb2 : sLen + n ≤ 140737488355327 := Nat.le_trans (Nat.le_mul_of_pos_right _ (bnd_pos _)) hb
 have hfit : Builtin.nextslicecap (sLen + n) sCap * i.bytes ≤ 281474976710656 := growslice_fits (by omega) (by omega)
 have h48' : ¬ (281474976710656 < Builtin.nextslicecap (sLen + n) sCap * i.bytes) := by omega
 have h63 : ¬ (((sLen + n : Nat) : Int) > IntKind.i64.max ∧ (false = true ∨ i.bytes = 0)) := by
  have : IntKind.i64.max = 9223372036854775807 := rfl
  omega
 have h63' : ¬ (9223372036854775807 < ((sLen : Int) + (n : Int))) := by omega
 have hl := h2.len w.drawn
 have hc := h2.cells (w.drawn + 1)
 have ho := h1 (w.drawn + 1)
 refine ⟨grownCap w (sLen + n) sCap el, (Builtin.zeroCells z.cells (grownCap w (sLen + n) sCap el - (sLen + n))).toList, grownCap_ge _ _ _ _, by simp [size_zeroCells], ?_⟩
 have hl' : (Builtin.lenOf y).run P w = .ok n w := hl
 have ho' : (Builtin.firstCells i.size sLen (.slice base sLen sCap)).run P w.drew = .ok olds.toArray w.drew := ho
 have hc' : (Builtin.firstCells i.size n y).run P w.drew = .ok news.toArray w.drew := hc
 have hnz : (du matches .int _) = false := by cases du <;> first | rfl | exact absurd rfl (hni _)
 simp [Builtin.append_, run_und ht, run_und hu, hnz, Go.sizeOf, typeInfo, zeroValue, hi, hz, hl', hn, h63', h48', Question.forced, ho', hc', newRow, grownCap, wnew]
 have e1 : olds.toArray ++ (news.toArray ++ Builtin.zeroCells z.cells ((Question.appendCap (sLen + n) sCap el).cut (w.tape w.drawn (Question.appendCap (sLen + n) sCap el)) - (sLen + n))) =
   (olds ++ (news ++ (Builtin.zeroCells z.cells ((Question.appendCap (sLen + n) sCap el).cut (w.tape w.drawn (Question.appendCap (sLen + n) sCap el)) - (sLen + n))).toList)).toArray := by
  apply Array.ext'
  simp
 rw [e1]
 rfl
theorem run_room {t u ty el : TypeId} {i : TypeInfo} {du : TypeDesc} (ht : P.underlying t = some (.slice el)) (hu : P.underlying u = some du) (hni : ∀ k, du ≠ .int k) (hi : P.info? el = some i)
  {b off sLen sCap n : Nat} {y : Value} {vs news : List Value} {et : TypeId} {fr : Nat × Nat} (hh : w.heap[b]? = some (.cells vs.toArray et fr)) (hfr : ∀ k, k < vs.length → ¬ (fr.1 ≤ k ∧ k < fr.2)) (h2 : Src P w y n i.size news)
  (ho : ∀ v ∈ news, v.oneCell' = true) (hr : sLen + n ≤ sCap) (hfit : off + sLen * i.size + news.length ≤ vs.length) :
  (Builtin.append_ #[t, u] ty #[.slice (some ⟨b, off, none⟩) sLen sCap, y]).run P w =
   .ok (.slice (some ⟨b, off, none⟩) (sLen + n) sCap) (wset w b (.cells (vs.take (off + sLen * i.size) ++ news ++ vs.drop (off + sLen * i.size + news.length)).toArray et fr)) := by
 have hl : (Builtin.lenOf y).run P w = .ok n w := h2.len w.drawn
 have hc : (Builtin.firstCells i.size n y).run P w = .ok news.toArray w := h2.cells w.drawn
 have hst := run_stores (P := P) (o := off + sLen * i.size) news 0 vs w hh (by omega) hfr ho
 simp only [Nat.add_zero] at hst
 have hnz : (du matches .int _) = false := by cases du <;> first | rfl | exact absurd rfl (hni _)
 simp [Builtin.append_, run_und ht, run_und hu, hnz, Go.sizeOf, typeInfo, hi, hl, hr, hc, addr_add, hst]
theorem run_same {t u ty el : TypeId} {i : TypeInfo} {du : TypeDesc} (ht : P.underlying t = some (.slice el)) (hu : P.underlying u = some du) (hni : ∀ k, du ≠ .int k) (hi : P.info? el = some i)
  {base : Option Addr} {sLen sCap : Nat} {y : Value} {news : List Value} (h2 : Src P w y 0 i.size news) (hn : news = []) (hr : sLen ≤ sCap) :
  (Builtin.append_ #[t, u] ty #[.slice base sLen sCap, y]).run P w = .ok (.slice base sLen sCap) w := by
 subst hn
 have hl : (Builtin.lenOf y).run P w = .ok 0 w := h2.len w.drawn
 have hc : (Builtin.firstCells i.size 0 y).run P w = .ok (#[] : Array Value) w := h2.cells w.drawn
 have hnz : (du matches .int _) = false := by cases du <;> first | rfl | exact absurd rfl (hni _)
 simp [Builtin.append_, run_und ht, run_und hu, hnz, Go.sizeOf, typeInfo, hi, hl, hr, hc]
 cases base <;> simp [storeCells]
theorem St.newArr (h : St w0 m0 N m ι e s a w) {els : List (List V)} {vs rest : List Value} {sz c : Nat} (f : Flat m sz els vs) (hr : rest.length = (c - els.length) * sz) (hc : els.length ≤ c) (hl : els.length ≤ 9223372036854775807) (wr : Bool) (t : TypeId) :
  St w0 m0 N m (ι ++ [⟨w.heap.size, c, sz, els.length⟩]) e (s ++ [.arr wr sz els]) a (wnew w (vs ++ rest) t) :=
 h.new (below_new w _ t) (by rw [wnew_size]; omega) rfl
  ⟨vs ++ rest, t, (0, 0), rfl, wnew_at w _ t, by
   rw [List.length_append, f.len, hr, ← Nat.add_mul]
   congr 1
   show _ = c
   omega, hc, rfl, hl, f.each, fun i j el c hi hj => by
    obtain ⟨x, hx, rx⟩ := f.rep i j el c hi hj
    exact ⟨x, by rw [List.getElem?_append_left (List.getElem?_eq_some_iff.1 hx).1]; exact hx, rx⟩, ⟨Nat.le_refl _, fun i hi => by omega⟩, fun o _ => h.mok.none_ (Nat.le_refl _) o, fun _ o => h.mok.none_ (Nat.le_refl _) o⟩
theorem St.extend (h : St w0 m0 N m ι e s a w) {id : Nat} {wr : Bool} {sz : Nat} {els els' : List (List V)} {β β' : Blk} (hs : s[id]? = some (.arr wr sz els)) (hβ : ι[id]? = some β) {vs vs' : List Value} {et : TypeId} {fr : Nat × Nat}
  (hh : w.heap[β.blk]? = some (.cells vs.toArray et fr)) (hv : ∀ k, k < els.length * sz → vs'[k]? = vs[k]?) (hb : β'.blk = β.blk) (ob : Ob m (ι ++ [β']) (wset w β.blk (.cells vs'.toArray et fr)) β' (.arr wr sz els')) :
  St w0 m0 N m (ι ++ [β']) e (s.set id .gone ++ [.arr wr sz els']) a (wset w β.blk (.cells vs'.toArray et fr)) :=
 have own := h.own id _ β hs hβ (by simp)
 have hid : id < s.length := (List.getElem?_eq_some_iff.1 hs).1
 have ext : ∀ (i : Nat) γ, ι[i]? = some γ → (ι ++ [β'])[i]? = some γ := fun i γ hi => by
  rw [List.getElem?_append_left (List.getElem?_eq_some_iff.1 hi).1]; exact hi
 have hml : ∀ o, els.length * sz ≤ o → m β.blk o = none := by
  obtain ⟨_, _, _, _, _, _, _, _, _, _, _, _, q, _⟩ := h.obj id _ β hs hβ
  exact q
 have split_ : ∀ {i : Nat} {p : O} {γ : Blk}, (s.set id .gone ++ [.arr wr sz els'])[i]? = some p → (ι ++ [β'])[i]? = some γ → p = .gone ∨ (i ≠ id ∧ s[i]? = some p ∧ ι[i]? = some γ) ∨ (i = s.length ∧ p = .arr wr sz els' ∧ γ = β') := by
  intro i p γ hp hγ
  rcases Nat.lt_or_ge i s.length with hi | hi
  ·rw [List.getElem?_append_left (by simpa using hi), List.getElem?_set] at hp
   rw [List.getElem?_append_left (h.len ▸ hi)] at hγ
   split at hp
   ·exact .inl (Option.some.inj hp).symm
   ·rename_i hne
    exact .inr (.inl ⟨fun z => hne z.symm, hp, hγ⟩)
  ·have : i = s.length := by
    have := (List.getElem?_eq_some_iff.1 hp).1
    simp at this
    omega
   subst this
   rw [List.getElem?_append_right (by simp)] at hp
   rw [List.getElem?_append_right (by rw [h.len]; exact Nat.le_refl _)] at hγ
   simp [h.len] at hp hγ
   exact .inr (.inr ⟨rfl, hp.symm, hγ.symm⟩)
 {defers := h.defers
  size := h.size
  env := fun t => (h.env t).ext ext
  mle := h.mle
  glo := h.glo
  mok := fun b k v hv2 => by
   by_cases q : b = β.blk
   ·subst q
    have hk : k < els.length * sz := by
     rcases Nat.lt_or_ge k (els.length * sz) with z | z
     ·exact z
     ·rw [hml k z] at hv2; cases hv2
    have h1 := h.mok _ _ _ hv2
    rw [cell_heap hh] at h1
    rw [cell_heap (vs := vs') (e := et) (fr := fr) (by rw [wset_heap, if_pos rfl, if_pos own.2]), hv k hk]
    exact h1
   ·rw [World.cell?_of_block (w := w) (a := ⟨b, k, none⟩) (by show (wset w β.blk _).heap[b]? = _; rw [wset_heap, if_neg q])]
    exact h.mok b k v hv2
  fresh := h.fresh
  below := h.below.wset own.1 _
  len := by simp [h.len]
  obj := fun i p γ hp hγ => by
   rcases split_ hp hγ with rfl | ⟨hne, hp2, hγ2⟩ | ⟨_, rfl, rfl⟩
   ·exact trivial
   ·have := h.obj i p γ hp2 hγ2
    cases p with
    | gone => exact trivial
    | box wr cs =>
     obtain ⟨us, et, fr, h1, h2, h3, h4⟩ := this
     exact ⟨us, et, fr, by rw [wset_heap, if_neg (h.inj i id _ _ γ β hp2 hs hγ2 hβ (by simp) (by simp) hne)]; exact h1, h2.ext ext, h3, h4⟩
    | arr wr sz els =>
     obtain ⟨us, et, fr, rfl, h1, h2, h3, h4, h5, h6, h7, h8, h9, h10⟩ := this
     exact ⟨us, et, fr, rfl, by rw [wset_heap, if_neg (h.inj i id _ _ γ β hp2 hs hγ2 hβ (by simp) (by simp) hne)]; exact h1, h2, h3, h4, h5, h6, h7, h8, h9, h10⟩
    | map ck es => exact this.map_move (by rw [wset_heap, if_neg (h.inj i id _ _ γ β hp2 hs hγ2 hβ (by simp) (by simp) hne)]) fun _ _ r => r.ext ext
    | it a b c d => exact this.it_move (by rw [wset_heap, if_neg (h.inj i id _ _ γ β hp2 hs hγ2 hβ (by simp) (by simp) hne)]) ext
    | raw x => exact ⟨by rw [wset_heap, if_neg (h.inj i id _ _ γ β hp2 hs hγ2 hβ (by simp) (by simp) hne)]; exact this.1, this.2⟩
   ·exact ob
  own := fun i p γ hp hγ hg => by
   rw [wset_size]
   rcases split_ hp hγ with rfl | ⟨hne, hp2, hγ2⟩ | ⟨_, rfl, rfl⟩
   ·exact absurd rfl hg
   ·exact h.own i p γ hp2 hγ2 hg
   ·rw [hb]; exact own
  pin := fun i γ hi => ext i γ (h.pin i γ hi)
  inj := fun i j p q γ δ hp hq hγ hδ hgp hgq hne => by
   rcases split_ hp hγ with rfl | ⟨hni, hp2, hγ2⟩ | ⟨hi, rfl, rfl⟩
   ·exact absurd rfl hgp
   ·rcases split_ hq hδ with rfl | ⟨hnj, hq2, hδ2⟩ | ⟨hj, rfl, rfl⟩
    ·exact absurd rfl hgq
    ·exact h.inj i j p q γ δ hp2 hq2 hγ2 hδ2 hgp hgq hne
    ·rw [hb]; exact h.inj i id p _ γ β hp2 hs hγ2 hβ hgp (by simp) hni
   ·rcases split_ hq hδ with rfl | ⟨hnj, hq2, hδ2⟩ | ⟨hj, rfl, rfl⟩
    ·exact absurd rfl hgq
    ·rw [hb]; exact fun z => h.inj j id q _ δ β hq2 hs hδ2 hβ hgq (by simp) hnj z.symm
    ·omega }
theorem flat_one {els : List (List V)} {vs : List Value} {sz : Nat} (f : Flat m sz els vs) (hl : ∀ e ∈ els, ∀ c ∈ e, leafV c = true) : ∀ v ∈ vs, v.oneCell' = true := by
 intro v hv
 obtain ⟨k, hk, rfl⟩ := List.mem_iff_getElem.1 hv
 rw [f.len] at hk
 have hz : 0 < sz := by
  rcases Nat.eq_zero_or_pos sz with q | q
  ·subst q; simp at hk
  ·exact q
 have h1 : k / sz < els.length := by rw [Nat.div_lt_iff_lt_mul hz]; exact hk
 have h2 : k % sz < (els[k / sz]).length := by rw [f.each _ (List.getElem_mem h1)]; exact Nat.mod_lt _ hz
 obtain ⟨x, hx, rx⟩ := f.rep (k / sz) (k % sz) _ _ (List.getElem?_eq_getElem h1) (List.getElem?_eq_getElem h2)
 have e1 : k / sz * sz + k % sz = k := by rw [Nat.mul_comm]; exact Nat.div_add_mod k sz
 rw [e1, List.getElem?_eq_getElem (by rw [f.len]; exact hk)] at hx
 obtain rfl := Option.some.inj hx
 exact leafV_one rx (hl _ (List.getElem_mem h1) _ (List.getElem_mem h2))
theorem appendG_sound (h : St w0 m0 N m ι e s a w) {t u ty el : TypeId} {i : TypeInfo} {z : Value} {du : TypeDesc} (ht : P.underlying t = some (.slice el)) (hu : P.underlying u = some du) (hni : ∀ k, du ≠ .int k) (hi : P.info? el = some i) (hz : i.zero = some z)
  (hzs : z.cells.size = i.size) {d : V} {dv y : Value} {new : List (List V)} {news : List Value} (rd : Rep m ι d dv) (f : (∀ e ∈ new, e.length = i.size) → Flat m i.size new news ∧ Src P w y new.length i.size news) (hf0 : new = [] → news = [] ∧ Src P w y 0 i.size [])
  (hk : appendG P i d new s K) : ∃ x w', (Builtin.append_ #[t, u] ty #[dv, y]).run P w = .ok x w' ∧ Lv w0 m0 N e a K x w' := by
 unfold appendG at hk
 split at hk
 ·rename_i els
  cases hne : new with
  | nil =>
   rw [hne] at hk
   have hk : K (.row true els) s := hk
   obtain ⟨rfl, h0⟩ := hf0 hne
   cases rd with
   | row _ _ _ p cap sz' b off g hx1 hc1 hl1 hs1 ha1 hm1 hr1 =>
    exact ⟨_, _, run_same (P := P) ht hu hni hi h0 rfl hc1, _, s, m, ι, hk, .row _ _ _ p cap sz' b off g hx1 hc1 hl1 hs1 ha1 hm1 hr1, h⟩
  | cons q0 qs =>
   rw [hne] at hk
   obtain ⟨⟨h1⟩, ⟨h2⟩, ⟨h3⟩, hk⟩ := (show _ ∧ _ from hk)
   rw [← hne] at h1 h3 hk
   rw [litK_eq, litK_eq] at hk
   obtain ⟨fn, src⟩ := f h1
   obtain ⟨olds, p, cap, rfl, hc1, hx1, hl1, fo, srco, _⟩ := row_cells (w := w) rd h.mok h2
   obtain rfl := hx1 rfl
   have hpos : 0 < new.length := by rw [hne]; simp
   obtain ⟨c, rest, hc, hrest, hrun⟩ := run_grow (P := P) (ty := ty) ht hu hni hi hz srco.cells src (by omega) h3
   have hlen : (els ++ new).length = els.length + new.length := by simp
   refine ⟨_, _, hrun, _, _, m, _, hk, ?_, ((h.drew (w.drawn + 1)).newArr (fo.append fn) (c := c) (rest := rest) (by rw [hlen, hrest, hzs]) (by rw [hlen]; exact hc) (by
    rw [hlen]
    have : els.length + new.length ≤ (els.length + new.length) * bnd i.bytes := Nat.le_mul_of_pos_right _ (bnd_pos _)
    omega) true el)⟩
   refine .sl _ s.length 0 _ _ c ⟨w.heap.size, c, i.size, (els ++ new).length⟩ (by rw [← h.len]; simp) hc (by simp) (by simp) (by
    have : els.length + new.length ≤ (els.length + new.length) * bnd i.bytes := Nat.le_mul_of_pos_right _ (bnd_pos _)
    omega) (fun _ => by simp)
 ·rename_i id off len
  rw [at?_eq] at hk
  split at hk
  ·rename_i wr sz els hs
   split at hk
   ·rename_i hq1 hq2
    have hq1 := Nat.eq_of_beq_eq_true hq1
    have hq2 := Nat.eq_of_beq_eq_true hq2
    subst hq1
    subst hq2
    cases rd with
    | sl _ _ _ _ p cap β hβ hl hc hn hb ha =>
     cases hne : new with
     | nil =>
      rw [hne] at hk
      have hk : K (.sl id 0 len) s := hk
      obtain ⟨rfl, h0⟩ := hf0 hne
      exact ⟨_, _, run_same (P := P) ht hu hni hi h0 rfl hl, _, s, m, ι, hk, .sl _ _ _ _ p cap β hβ hl hc hn hb ha, h⟩
     | cons q0 qs =>
      rw [hne] at hk
      obtain ⟨⟨hlen⟩, ⟨h1⟩, ⟨h4⟩, ⟨h3⟩, hk3⟩ := (show _ ∧ _ from hk)
      clear hk
      rw [← hne] at h1 h3 h4 hk3
      rw [litK_eq, setAt_eq] at hk3
      obtain ⟨fn, src⟩ := f h1
      have hpos : 0 < new.length := by rw [hne]; simp
      obtain ⟨vs, et, fr, hsz, hh, hvl, hcap, hnn, hel, hszs, hcs, ⟨hfo, hfr⟩, hml, hmn⟩ := h.obj id _ β hs hβ
      subst hlen
      have hle : els.length * i.size ≤ vs.length := by rw [hvl]; exact Nat.mul_le_mul_right _ hcap
      have hlen : (els ++ new).length = els.length + new.length := by simp
      have hbig : els.length + new.length ≤ 9223372036854775807 := by
       have : els.length + new.length ≤ (els.length + new.length) * bnd i.bytes := Nat.le_mul_of_pos_right _ (bnd_pos _)
       omega
      have own := h.own id _ β hs hβ (by simp)
      have fo : Flat m i.size els (vs.take (els.length * i.size)) := by
       have := Flat.part hcs hszs hle 0 els.length (by omega)
       simpa using this
      by_cases hroom : els.length + new.length ≤ cap
      ·obtain rfl := ha (by omega)
       have hfit : els.length * i.size + news.length ≤ vs.length := by
        rw [fn.len, hvl, ← Nat.add_mul]
        exact Nat.mul_le_mul_right _ (by omega)
       have hrun := run_room (P := P) (ty := ty) (off := 0) (sCap := cap) ht hu hni hi hh hfr src (flat_one fn h4) hroom (by omega)
       simp only [Nat.zero_add] at hrun
       simp only [Nat.zero_mul]
       refine ⟨_, _, hrun, _, _, m, ι ++ [⟨β.blk, β.cap, β.sz, (els ++ new).length⟩], hk3, ?_, ?_⟩
       ·refine .sl _ s.length 0 _ _ cap ⟨β.blk, β.cap, β.sz, (els ++ new).length⟩ (by rw [← h.len]; simp) hroom hc (by simp) hbig (fun _ => by simp)
       ·have hv : ∀ k, k < els.length * i.size → (vs.take (els.length * i.size) ++ news ++ vs.drop (els.length * i.size + news.length))[k]? = vs[k]? := by
         intro k hk
         rw [List.append_assoc, List.getElem?_append_left (by rw [List.length_take]; omega), List.getElem?_take, if_pos hk]
        have hvl2 : (vs.take (els.length * i.size) ++ news ++ vs.drop (els.length * i.size + news.length)).length = vs.length := by
         simp only [List.length_append, List.length_take, List.length_drop]
         omega
        refine h.extend (β' := ⟨β.blk, β.cap, β.sz, (els ++ new).length⟩) hs hβ hh hv rfl
         ⟨_, et, fr, hsz, by rw [wset_heap, if_pos rfl, if_pos own.2], by rw [hvl2]; exact hvl, (show (els ++ new).length ≤ β.cap by rw [hlen]; omega), rfl, by rw [hlen]; exact hbig, fun el he => (List.mem_append.1 he).elim (hszs el) (h1 el), fun i' j el' c hi' hj => ?_, ⟨hfo, fun k hk => hfr k (hvl2 ▸ hk)⟩,
          fun o ho => hml o (by rw [hlen, Nat.add_mul] at ho; omega), hmn⟩
        obtain ⟨x, hx, rx⟩ := (fo.append fn).rep i' j el' c hi' hj
        exact ⟨x, by rw [List.getElem?_append_left (List.getElem?_eq_some_iff.1 hx).1]; exact hx, rx⟩
      ·have hold : Src P w (.slice p els.length cap) els.length i.size (vs.take (els.length * i.size)) := by
        by_cases hc0 : cap = 0
        ·have : els.length = 0 := by omega
         have he : els = [] := List.eq_nil_of_length_eq_zero this
         subst he
         simpa using src_none (P := P) (w := w) (a := p) (cap := cap) (sz := i.size)
        ·obtain rfl := ha hc0
         refine src_slice fo.len fun j y hj => ?_
         rw [List.getElem?_take] at hj
         split at hj
         ·rw [cell_heap hh, ← hj]
          congr 1
          omega
         ·cases hj
       obtain ⟨c, rest, hc2, hrest, hrun⟩ := run_grow (P := P) (ty := ty) ht hu hni hi hz hold.cells src (by omega) h3
       have h' := ((h.drew (w.drawn + 1)).lose id).newArr (fo.append fn) (c := c) (rest := rest) (by rw [hlen, hrest, hzs]) (by rw [hlen]; exact hc2) (by rw [hlen]; exact hbig) wr el
       refine ⟨_, _, hrun, _, _, m, _, hk3, ?_, h'⟩
       refine .sl _ s.length 0 _ _ c ⟨w.heap.size, c, i.size, (els ++ new).length⟩ (by rw [← h.len]; simp) hc2 (by simp) (by simp) hbig (fun _ => by simp)
   ·exact hk.elim
  ·exact hk.elim
 ·exact hk.elim
end
end Go.Proofs.YtcbknemdidehlaaGreatDoor.Ab
namespace Go.Proofs.YtcbknemdidehlaaGreatDoor.Ab
open Go.RowKit
set_option linter.unusedVariables false
set_option linter.unusedSimpArgs false
section
variable {l : Bool} {P : Program} {w0 : Base} {m0 : Mem} {N : Nat} {m : Mem} {ι : List Blk} {e : Env} {s : List O} {a : Act} {w : World} {o : Oper} {K : V → List O → Prop}
theorem keyOk_inv {t : TypeId} {k : V} {x : Value} (h : leafKey P t k = true) (r : Rep m ι k x) : ∃ d, P.underlying t = some d ∧ MapKept.IsKey d x := by
 unfold leafKey at h
 split at h
 ·rename_i k' j n hu
  obtain ⟨rfl, _⟩ := r.int_inv
  exact ⟨_, hu, (of_decide_eq_true h : j = k')⟩
 ·rename_i b hu
  obtain ⟨rfl, _⟩ := r.str_inv
  exact ⟨_, hu, trivial⟩
 ·rename_i b hu
  obtain rfl := r.bool_inv
  exact ⟨_, hu, trivial⟩
 ·cases h
theorem same_leaf {t : TypeId} {d : TypeDesc} (hu : P.underlying t = some d) {u v : V} {x y : Value} (hx : Rep m ι u x) (hy : Rep m ι v y) {b : Bool} (h : eqLeaf P t u v = some b) : Instr.sameNow d x y = some b ∧ (b = true → y = x) := by
 unfold eqLeaf at h
 split at h
 ·rename_i k' k p j q hu'
  rw [hu] at hu'
  obtain rfl := Option.some.inj hu'
  obtain ⟨rfl, _⟩ := hx.int_inv
  obtain ⟨rfl, _⟩ := hy.int_inv
  split at h
  ·rename_i hk
   obtain rfl := of_decide_eq_true hk
   obtain rfl := Option.some.inj h
   refine ⟨by simp [Instr.sameNow]; try rfl, fun q => ?_⟩
   rw [of_decide_eq_true q]
  ·cases h
 ·rename_i p q hu'
  rw [hu] at hu'
  obtain rfl := Option.some.inj hu'
  obtain ⟨rfl, _⟩ := hx.str_inv
  obtain ⟨rfl, _⟩ := hy.str_inv
  obtain rfl := Option.some.inj h
  refine ⟨by simp only [Instr.sameNow]; congr 1; rw [Bool.eq_iff_iff, MapKept.bytes_beq]; simp, fun q => ?_⟩
  rw [of_decide_eq_true q]
 ·rename_i p q hu'
  rw [hu] at hu'
  obtain rfl := Option.some.inj hu'
  obtain rfl := hx.bool_inv
  obtain rfl := hy.bool_inv
  obtain rfl := Option.some.inj h
  refine ⟨by simp only [Instr.sameNow], fun q => ?_⟩
  rw [eq_of_beq q]
 ·cases h
theorem eqLeaf_und {t : TypeId} {u v : V} {b : Bool} (h : eqLeaf P t u v = some b) : ∃ d, P.underlying t = some d := by
 cases hu : P.underlying t with
 | some d => exact ⟨d, rfl⟩
 | none => simp [eqLeaf, hu] at h
theorem eqFs_eq : ∀ (fs : List Field) (i : Nat) (us vs : List V) (xs ys : List Value), RepL m ι us xs → RepL m ι vs ys → eqFs P i fs us vs = some true → ys = xs
 | [], i, [], [], [], [], _, _, _ => rfl
 | [], i, [], [], _ :: _, _, hx, _, _ => by have := hx.1; simp at this
 | [], i, [], [], [], _ :: _, _, hy, _ => by have := hy.1; simp at this
 | f :: fs, i, u :: us, v :: vs, x :: xs, y :: ys, hx, hy, h => by
  simp only [eqFs] at h
  split at h
  ·rename_i a b _ h1 h2
   have h := Option.some.inj h
   rw [Bool.and_eq_true] at h
   obtain ⟨rfl, rfl⟩ := h
   obtain ⟨d, hd⟩ := eqLeaf_und h1
   rw [(same_leaf hd (hx.2 0 u x rfl rfl) (hy.2 0 v y rfl rfl) h1).2 rfl, eqFs_eq fs (i + 1) us vs xs ys ⟨by have := hx.1; simpa using this, fun j a b p q => hx.2 (j + 1) a b (by simpa using p) (by simpa using q)⟩ ⟨by have := hy.1; simpa using this, fun j a b p q => hy.2 (j + 1) a b (by simpa using p) (by simpa using q)⟩ h2]
  ·cases h
 | f :: fs, i, u :: us, v :: vs, [], _, hx, _, _ => by have := hx.1; simp at this
 | f :: fs, i, u :: us, v :: vs, _ :: _, [], _, hy, _ => by have := hy.1; simp at this
 | [], _, _ :: _, _, _, _, _, _, h => by simp [eqFs] at h
 | [], _, [], _ :: _, _, _, _, _, h => by simp [eqFs] at h
 | _ :: _, _, [], _, _, _, _, _, h => by simp [eqFs] at h
 | _ :: _, _, _ :: _, [], _, _, _, _, h => by simp [eqFs] at h
theorem run_eqKey {t : TypeId} {d : TypeDesc} (hu : P.underlying t = some d) (hn : keyN P t = true) {u v : V} {x y : Value} (hx : Rep m ι u x) (hy : Rep m ι v y) {b : Bool} (h : eqKey P t u v = some b) :
  (∀ w, (Op.equal t x y).run P w = .ok b w) ∧ (b = true → y = x) ∧ ∀ c, Instr.sameNow d x y = some c → c = b := by
 unfold eqKey at h
 split at h
 ·rename_i p q
  obtain ⟨xs, rfl, rxs⟩ := hx.agg_inv
  obtain ⟨ys, rfl, rys⟩ := hy.agg_inv
  split at h
  ·rename_i fs hf
   rw [hu] at hf
   obtain rfl := Option.some.inj hf
   simp only [keyN, hu, Bool.and_eq_true, Bool.not_eq_true'] at hn
   have hfs : P.fieldsOf t = fs := by simp [Program.fieldsOf, hu]
   refine ⟨fun w => ?_, fun hb => ?_, fun c hc => ?_⟩
   ·show (Op.equalIn 10000 t (.agg xs.toArray) (.agg ys.toArray)).run P w = .ok b w
    rw [run_equalIn_agg w 9999 t _ _ (by rw [hfs]; exact hu) hn.2, hfs]
    exact run_eqFs 9998 _ _ w fs.toList 0 p q b (by simpa using rxs) (by simpa using rys) h hn.1
   ·subst hb
    rw [eqFs_eq fs.toList 0 p q xs ys rxs rys h]
   ·simp [Instr.sameNow] at hc
  ·cases h
 ·obtain ⟨h1, h2⟩ := same_leaf hu hx hy h
  refine ⟨fun w => (run_eqLeaf hx hy h 9999 w).1, h2, fun c hc => ?_⟩
  rw [h1] at hc
  exact (Option.some.inj hc).symm
theorem key_run {t : TypeId} {k : V} {x : Value} (hn : keyN P t = true) (h : keyOk P t k = true) (r : Rep m ι k x) :
  ∃ d, P.underlying t = some d ∧ (∀ e w, (Instr.checkKey e 10000 t x).run P w = .ok () w) ∧ ∀ w, (Instr.keyThatStays x x).run P w = .ok x w := by
 unfold keyOk at h
 split at h
 ·rename_i cs
  obtain ⟨xs, rfl, rxs⟩ := r.agg_inv
  split at h
  ·rename_i fs hu
   simp only [keyN, hu, Bool.and_eq_true] at hn
   have one : ∀ (f : Field) (i : Nat) (u : V) (p : Value), Rep m ι u p → f.offset = i → leafKey P f.type u = true → xs[i]? = some p → Instr.sameBits 9999 p p = true ∧ ∀ (e : Bool) (w : World), (part f.type xs.toArray f.offset).run P w = .ok p w ∧ (Instr.checkKey e 9999 f.type p).run P w = .ok () w := by
    intro f i u p rp hoff hl hp
    obtain ⟨d, hd, hkey⟩ := keyOk_inv hl rp
    have hagg : isAggT P f.type = some false := by
     unfold leafKey at hl
     split at hl
     ·rename_i h1; simp [isAggT, h1]
     ·rename_i h1; simp [isAggT, h1]
     ·rename_i h1; simp [isAggT, h1]
     ·cases hl
    exact ⟨MapKept.sameBits_self hkey 9999, fun e w => ⟨run_part hagg (by rw [hoff]; simpa using hp) w, MapKept.run_checkKey hd hkey e 9998⟩⟩
   have bits : ∀ (L : List Field) (i : Nat) (us : List V), RepL m ι us (xs.drop i) → keyFs P i L us = true → (xs.drop i).all (fun a => Instr.sameBits 9999 a a) = true ∧ ∀ (j : Nat) (f : Field), L[j]? = some f → ∃ p, Instr.sameBits 9999 p p = true ∧ ∀ (e : Bool) (w : World), (part f.type xs.toArray f.offset).run P w = .ok p w ∧ (Instr.checkKey e 9999 f.type p).run P w = .ok () w := by
    intro L
    induction L with
    | nil =>
     intro i us hr hk
     cases us with
     | nil =>
      have : xs.drop i = [] := List.eq_nil_of_length_eq_zero hr.1.symm
      exact ⟨by rw [this]; rfl, fun j f hj => by simp at hj⟩
     | cons _ _ => simp [keyFs] at hk
    | cons f L ih =>
     intro i us hr hk
     cases us with
     | nil => simp [keyFs] at hk
     | cons u us =>
      simp only [keyFs, Bool.and_eq_true] at hk
      obtain ⟨⟨hoff, hl⟩, hrest⟩ := hk
      obtain ⟨p, hp, rp⟩ := hr.get (i := 0) (c := u) rfl
      have hp' : xs[i]? = some p := by simpa using hp
      have hlt := (List.getElem?_eq_some_iff.1 hp').1
      have hdrop : xs.drop i = p :: xs.drop (i + 1) := by rw [List.drop_eq_getElem_cons hlt, (List.getElem?_eq_some_iff.1 hp').2]
      have hr2 : RepL m ι us (xs.drop (i + 1)) := by
       rw [hdrop] at hr
       exact ⟨by have := hr.1; simpa using this, fun j a b q1 q2 => hr.2 (j + 1) a b (by simpa using q1) (by simpa using q2)⟩
      obtain ⟨i1, i2⟩ := ih (i + 1) us hr2 hrest
      have h1 := one f i u p rp (Nat.eq_of_beq_eq_true hoff) hl hp'
      refine ⟨by rw [hdrop, List.all_cons, i1, h1.1]; rfl, fun j g hj => ?_⟩
      cases j with
      | zero => simp at hj; subst hj; exact ⟨p, h1⟩
      | succ j => exact i2 j g (by simpa using hj)
   obtain ⟨k2, k1⟩ := bits fs.toList 0 cs (by simpa using rxs) h
   refine ⟨_, hu, fun e w => ?_, fun w => ?_⟩
   ·show (Instr.checkKey e (9999 + 1) t (.agg xs.toArray)).run P w = .ok () w
    rw [Instr.checkKey]
    simp only [Sem.run_bind, run_und hu, Result.andThen_ok]
    rw [← Array.forIn_toList]
    have hn1 := hn.1
    clear h hn hu
    generalize fs.toList = L at k1 hn1
    induction L with
    | nil => simp
    | cons f L ih =>
     obtain ⟨p, _, q⟩ := k1 0 f rfl
     obtain ⟨q1, q2⟩ := q e w
     simp only [List.all_cons, Bool.and_eq_true, bne_iff_ne] at hn1
     simp only [List.forIn_cons, Sem.run_bind, hn1.1, ne_eq, not_false_eq_true, if_true, q1, Result.andThen_ok, q2, Sem.run_pure]
     exact ih (fun j g hj => k1 (j + 1) g (by simpa using hj)) hn1.2
   ·have hs : Instr.sameBits 10000 (.agg xs.toArray) (.agg xs.toArray) = true := by
     show Instr.sameBits (9999 + 1) (.agg xs.toArray) (.agg xs.toArray) = true
     simp only [Instr.sameBits, beq_self_eq_true, Bool.true_and, List.all_eq_true]
     intro p hp
     simp only [List.mem_iff_getElem?, List.getElem?_zip_eq_some] at hp
     obtain ⟨j, q1, q2⟩ := hp
     rw [q1] at q2
     have := Option.some.inj q2
     rw [← this]
     exact List.all_eq_true.1 k2 _ (by simpa using List.mem_of_getElem? q1)
    simp [Instr.keyThatStays, hs]
  ·cases h
 ·obtain ⟨d, hd, hkey⟩ := keyOk_inv h r
  exact ⟨d, hd, fun e w => MapKept.run_checkKey hd hkey e 9999, fun w => MapKept.run_keyThatStays hkey⟩
def Fnd (es : List (Nat × V × V)) (ms : List MapEntry) (x : Value) (i : Nat) (r : Option (Nat × Nat × V × V)) (q : Option (Nat × Value)) : Prop :=
 (r = none ∧ q = none) ∨ ∃ (j : Nat) (y : Nat × V × V) (f : MapEntry), r = some (i + j, y) ∧ q = some (i + j, f.val) ∧ es[j]? = some y ∧ ms[j]? = some f ∧ f.key = x
theorem findK_ask {kt : TypeId} {d : TypeDesc} {k : V} {x : Value} (hu : P.underlying kt = some d) (hn : keyN P kt = true) (rk : Rep m ι k x) {R : Option (Nat × Nat × V × V) → Prop} : ∀ (es : List (Nat × V × V)) (ms : List MapEntry) (i : Nat), RepM m ι es ms → findK P kt k es i R →
  ∃ r q, R r ∧ (∀ w, (Instr.findAsking kt x ms i).run P w = .ok q w) ∧ (∀ q', Instr.findNow d x ms i = some q' → q' = q) ∧ Fnd es ms x i r q
 | [], [], i, _, h => ⟨none, none, h, fun w => by simp [Instr.findAsking], fun q' hq => by simpa [Instr.findNow] using hq.symm, .inl ⟨rfl, rfl⟩⟩
 | [], _ :: _, i, hr, _ => by have := hr.1; simp at this
 | _ :: _, [], i, hr, _ => by have := hr.1; simp at this
 | y :: es, f :: ms, i, hr, h => by
  obtain ⟨_, r1, _⟩ := hr.2 0 y f rfl rfl
  simp only [findK] at h
  split at h
  ·rename_i b hb
   obtain ⟨h1, h2, h3⟩ := run_eqKey hu hn rk r1 hb
   cases b
   ·obtain ⟨r, q, hR, hq, hq', hf⟩ := findK_ask hu hn rk es ms (i + 1) ⟨by have := hr.1; simpa using this, fun j x y hx hy => hr.2 (j + 1) x y (by simpa using hx) (by simpa using hy)⟩ h
    refine ⟨r, q, hR, fun w => by simp [Instr.findAsking, h1, hq], fun q' hq2 => ?_, ?_⟩
    ·simp only [Instr.findNow] at hq2
     split at hq2
     ·rename_i h5; cases h3 _ h5
     ·exact hq' _ hq2
     ·cases hq2
    ·rcases hf with hf | ⟨j, y', f', rfl, rfl, e1, e2, e3⟩
     ·exact .inl hf
     ·exact .inr ⟨j + 1, y', f', by rw [show i + (j + 1) = i + 1 + j by omega], by rw [show i + (j + 1) = i + 1 + j by omega], by simpa using e1, by simpa using e2, e3⟩
   ·refine ⟨_, some (i, f.val), h, fun w => by simp [Instr.findAsking, h1], fun q' hq2 => ?_, .inr ⟨0, y, f, rfl, rfl, rfl, rfl, h2 rfl⟩⟩
    simp only [Instr.findNow] at hq2
    split at hq2
    ·exact (Option.some.inj hq2).symm
    ·rename_i h5; cases h3 _ h5
    ·cases hq2
  ·exact h.elim
theorem findK_sound {kt : TypeId} {d : TypeDesc} {k : V} {x : Value} (hu : P.underlying kt = some d) (hn : keyN P kt = true) (rk : Rep m ι k x) {R : Option (Nat × Nat × V × V) → Prop} (es : List (Nat × V × V)) (ms : List MapEntry) (hr : RepM m ι es ms) (h : findK P kt k es 0 R) :
  ∃ r q, R r ∧ (∀ w, (Instr.findKey kt x ms).run P w = .ok q w) ∧ Fnd es ms x 0 r q := by
 obtain ⟨r, q, h1, h2, h3, h4⟩ := findK_ask hu hn rk es ms 0 hr h
 refine ⟨r, q, h1, fun w => ?_, h4⟩
 unfold Instr.findKey
 simp only [Sem.run_bind, run_und hu, Result.andThen_ok]
 split
 ·rename_i q' hq; rw [h3 _ hq]; rfl
 ·exact h2 w
theorem map_none {id : Nat} {β : Blk} (h : St w0 m0 N m ι e s a w) {b : Nat} {o : Obj} (hb : w.heap[b]? = some o) (hn : ∀ c e f, o ≠ .cells c e f) (k : Nat) : m b k = none := by
 cases q : m b k with
 | none => rfl
 | some v =>
  have := h.mok b k v q
  simp only [World.cell?, hb] at this
  cases o <;> first | (cases this; done) | exact absurd rfl (hn _ _ _)
def wpush (w : World) (o : Obj) : World := { w with heap := w.heap.push o }
theorem below_push (w : World) (o : Obj) : Below w.heap.size w (wpush w o) :=
 ⟨rfl, rfl, rfl, by simp [wpush], fun k hk => by simp only [wpush, Array.getElem?_push]; rw [if_neg (by omega)]⟩
theorem wpush_at (w : World) (o : Obj) : (wpush w o).heap[w.heap.size]? = some o := by
 show (w.heap.push _)[w.heap.size]? = _
 rw [Array.getElem?_push, if_pos rfl]
theorem St.push (h : St w0 m0 N m ι e s a w) (ob : Obj) {o : O} (ho : Ob m (ι ++ [⟨w.heap.size, 0, 0, 0⟩]) (wpush w ob) ⟨w.heap.size, 0, 0, 0⟩ o) : St w0 m0 N m (ι ++ [⟨w.heap.size, 0, 0, 0⟩]) e (s ++ [o]) a (wpush w ob) :=
 h.new (below_push w ob) (by simp [wpush]) rfl ho
theorem goes_makeMap (h : St w0 m0 N m ι e s a w) {t : TypeId} {r : Option Operand} (ho : o.op = .makeMap t r) (hk : opK P l e s o K) : Goes P o a w (Lv w0 m0 N e a K) := by
 cases r with
 | some _ => simp [opK, ho] at hk
 | none =>
  simp only [opK, ho, litK_eq] at hk
  unfold Goes
  have hrun : (execOp a.eval o).run P w = .ok (.value (.map (some w.heap.size))) (wpush w (.map #[] 0)) := by simp [execOp, ho, Instr.makeMap, newObj, wpush]; rfl
  rw [hrun]
  refine ⟨_, _, m, _, hk, Rep.map _ _ ⟨w.heap.size, 0, 0, 0⟩ (by rw [← h.len]; simp), h.push _ ⟨[], wpush_at w _, ⟨rfl, fun i x y hx => by simp at hx⟩, by simp⟩⟩
theorem two_rep {ok b : Bool} {v : V} {x : Value} (r : Rep m ι v x) : Rep m ι (two ok v b) (if ok = true then .tuple #[x, .bool b] else x) := by
 cases ok
 ·exact r
 ·exact Rep.tupL (vs := [_, _]) ((RepL.nil m ι).cons (.bool ι b) |>.cons r)
theorem goes_lookup (h : St w0 m0 N m ι e s a w) {t : TypeId} {x y : Operand} {ok : Bool} (ho : o.op = .lookup t x y ok) (hx : okX x = true) (hy : okX y = true) (hz : (match P.underlying t with | some (.map _ el) => zOk P el | _ => true) = true) (hkt : keyT P t = true) (hk : opK P l e s o K) : Goes P o a w (Lv w0 m0 N e a K) := by
 simp only [opK, ho] at hk
 have rx := h.at hx
 have ry := h.at hy
 generalize hvx : a.eval x = vx at *
 generalize hvy : a.eval y = vy at *
 generalize ev e x = ux at *
 generalize ev e y = uy at *
 split at hk
 ·rename_i kt el hu
  rw [hu] at hz
  simp only [keyT, hu] at hkt
  split at hk
  ·rename_i z hz0 hko
   obtain ⟨d, hd, hck, _⟩ := key_run hkt hko ry
   obtain ⟨zv, hzv, rfl, hok⟩ := run_zero (w := w) hz0 hz
   split at hk
   ·cases rx with
    | nilMap =>
     refine Goes.here h (x := if ok = true then .tuple #[zv, .bool false] else zv) ?_ (two_rep (ofC_rep m ι zv hok)) hk
     have hf : (Instr.findKey kt vy ([] : List MapEntry)).run P w = .ok none w := MapKept.run_findKey hd (by simp [Instr.findNow])
     cases ok <;> simp [execOp, ho, hvx, hvy, Instr.lookup, run_und hu, hck, hf, hzv, Result.andThen]
   ·rename_i id
    cases rx with
    | map _ _ β hβ =>
     rw [at?_eq] at hk
     split at hk
     ·rename_i ck es hs
      obtain ⟨ms, hh, hR, hlen⟩ := h.obj id _ β hs hβ
      obtain ⟨r, q, hK, hf, hfnd⟩ := findK_sound hd hkt ry es ms hR hk
      have hf2 := hf w
      rcases hfnd with ⟨rfl, rfl⟩ | ⟨j, y', f, rfl, rfl, e1, e2, e3⟩
      ·refine Goes.here h (x := if ok = true then .tuple #[zv, .bool false] else zv) ?_ (two_rep (ofC_rep m ι zv hok)) hK
       cases ok <;> simp [execOp, ho, hvx, hvy, Instr.lookup, run_und hu, MapKept.run_getObj_map hh, hck, hf2, hzv, Result.andThen]
      ·obtain ⟨_, _, rv⟩ := hR.2 j y' f e1 e2
       refine Goes.here h (x := if ok = true then .tuple #[f.val, .bool true] else f.val) ?_ (two_rep rv) hK
       cases ok <;> simp [execOp, ho, hvx, hvy, Instr.lookup, run_und hu, MapKept.run_getObj_map hh, hck, hf2, Result.andThen]
     ·exact hk.elim
   ·exact hk.elim
  ·exact hk.elim
 ·exact hk.elim
theorem RepM.set {es : List (Nat × V × V)} {ms : List MapEntry} (h : RepM m ι es ms) (j : Nat) {y : Nat × V × V} {f : MapEntry} (hf : f.born = y.1 ∧ Rep m ι y.2.1 f.key ∧ Rep m ι y.2.2 f.val) : RepM m ι (es.set j y) (ms.set j f) := by
 refine ⟨by simp [h.1], fun i x g hx hg => ?_⟩
 rw [List.getElem?_set] at hx hg
 by_cases q : j = i
 ·subst q
  simp only [if_true] at hx hg
  split at hx
  ·split at hg
   ·rw [← Option.some.inj hx, ← Option.some.inj hg]; exact hf
   ·cases hg
  ·cases hx
 ·rw [if_neg q] at hx hg
  exact h.2 i x g hx hg
theorem RepM.push {es : List (Nat × V × V)} {ms : List MapEntry} (h : RepM m ι es ms) {y : Nat × V × V} {f : MapEntry} (hf : f.born = y.1 ∧ Rep m ι y.2.1 f.key ∧ Rep m ι y.2.2 f.val) : RepM m ι (es ++ [y]) (ms ++ [f]) := by
 refine ⟨by simp [h.1], fun i x g hx hg => ?_⟩
 rcases Nat.lt_or_ge i es.length with q | q
 ·rw [List.getElem?_append_left q] at hx
  rw [List.getElem?_append_left (h.1 ▸ q)] at hg
  exact h.2 i x g hx hg
 ·rw [List.getElem?_append_right q] at hx
  rw [List.getElem?_append_right (h.1 ▸ q), ← h.1] at hg
  have : i - es.length = 0 := by have := (List.getElem?_eq_some_iff.1 hx).1; simp at this; omega
  rw [this] at hx hg
  simp at hx hg
  subst hx; subst hg
  exact hf
theorem RepM.erase {es : List (Nat × V × V)} {ms : List MapEntry} (h : RepM m ι es ms) (j : Nat) : RepM m ι (es.eraseIdx j) (ms.eraseIdx j) := by
 refine ⟨by simp [List.length_eraseIdx, h.1], fun i x g hx hg => ?_⟩
 rw [List.getElem?_eraseIdx] at hx hg
 split at hx
 ·rename_i hij; rw [if_pos hij] at hg; exact h.2 i x g hx hg
 ·rename_i hij; rw [if_neg hij] at hg; exact h.2 _ x g hx hg
theorem St.writeM (h : St w0 m0 N m ι e s a w) {id ck ck' : Nat} {es es' : List (Nat × V × V)} {ms ms' : List MapEntry} {β : Blk} (hs : s[id]? = some (.map ck es)) (hβ : ι[id]? = some β) (hh : w.heap[β.blk]? = some (.map ms.toArray ck)) (hR : RepM m ι es' ms') (hl : es'.length ≤ 9223372036854775807) :
  St w0 m0 N m ι e (setAt s id (.map ck' es')) a (wset w β.blk (.map ms'.toArray ck')) := by
 rw [setAt_eq]
 refine h.write hs hβ (by simp) (by simp) (map_none (id := id) (β := β) h hh (by simp)) ⟨ms', ?_, hR, hl⟩
 rw [wset_heap, if_pos rfl, if_pos (h.own id _ β hs hβ (by simp)).2]
theorem goes_mapUpdate (h : St w0 m0 N m ι e s a w) {t : TypeId} {x y z : Operand} (ho : o.op = .mapUpdate t x y z) (hx : okX x = true) (hy : okX y = true) (hz : okX z = true) (hkt : keyT P t = true) (hk : opK P l e s o K) : Goes P o a w (Lv w0 m0 N e a K) := by
 simp only [opK, ho] at hk
 have rx := h.at hx
 have ry := h.at hy
 have rz := h.at hz
 generalize hvx : a.eval x = vx at *
 generalize hvy : a.eval y = vy at *
 generalize hvz : a.eval z = vz at *
 generalize ev e x = ux at *
 generalize ev e y = uy at *
 generalize ev e z = uz at *
 split at hk
 ·rename_i kt el id hu
  simp only [keyT, hu] at hkt
  cases rx with
  | map _ _ β hβ =>
   rw [at?_eq] at hk
   split at hk
   ·rename_i ck es hs hko
    obtain ⟨d, hd, hck, hst⟩ := key_run hkt hko ry
    obtain ⟨ms, hh, hR, hlen⟩ := h.obj id _ β hs hβ
    simp only [fV_eq, litK_eq] at hk
    obtain ⟨r, q, hK, hf, hfnd⟩ := findK_sound hd hkt ry es ms hR hk
    have hf2 := hf w
    unfold Goes
    rcases hfnd with ⟨rfl, rfl⟩ | ⟨j, y', f, rfl, rfl, e1, e2, e3⟩
    ·obtain ⟨⟨hb⟩, hK⟩ := hK
     have hrun : (execOp a.eval o).run P w = .ok .skip (wset w β.blk (.map (ms ++ [({ key := vy, val := vz, born := ck } : MapEntry)]).toArray (ck + 1))) := by
      simp [execOp, ho, hvx, hvy, hvz, Instr.mapUpdate, run_und hu, MapKept.run_getObj_map hh, hck, hf2, MapKept.run_setObj_map _ hh, Result.andThen, wset]
      try rfl
     rw [hrun]
     exact ⟨_, _, m, ι, hK, Rep.tupL (vs := []) (RepL.nil m ι), h.writeM hs hβ hh (hR.push ⟨rfl, ry, rz⟩) (by simp; omega)⟩
    ·subst e3
     have hmod : (ms.toArray.modify j fun e => { e with key := f.key, val := vz }) = (ms.set j { f with val := vz }).toArray := by
      apply Array.ext_getElem?
      intro i
      simp only [Array.getElem?_modify, List.getElem?_toArray, List.getElem?_set]
      by_cases q : j = i
      ·subst q
       have hlt := (List.getElem?_eq_some_iff.1 e2).1
       have e4 : ms[j] = f := (List.getElem?_eq_some_iff.1 e2).2
       simp [e2, hlt, e4]
      ·simp [q]
     have hrun : (execOp a.eval o).run P w = .ok .skip (wset w β.blk (.map (ms.set j { f with val := vz }).toArray ck)) := by
      rw [← hmod]
      simp [execOp, ho, hvx, hvy, hvz, Instr.mapUpdate, run_und hu, MapKept.run_getObj_map hh, hck, hf2, e2, hst, MapKept.run_setObj_map _ hh, Result.andThen, wset]
      try rfl
     rw [hrun]
     simp only [Nat.zero_add] at hK
     refine ⟨_, _, m, ι, hK, Rep.tupL (vs := []) (RepL.nil m ι), h.writeM hs hβ hh ?_ (by simpa [setAt_eq] using hlen)⟩
     rw [setAt_eq]
     exact hR.set j ⟨(hR.2 j y' f e1 e2).1, ry, rz⟩
   ·exact hk.elim
 ·exact hk.elim
theorem set_same {id : Nat} {x : O} (hs : s[id]? = some x) : s.set id x = s := by
 apply List.ext_getElem?
 intro i
 rw [List.getElem?_set]
 by_cases q : id = i
 ·subst q; rw [if_pos rfl, hs]; simp [(List.getElem?_eq_some_iff.1 hs).1]
 ·rw [if_neg q]
theorem goes_mapEntry (h : St w0 m0 N m ι e s a w) {t : TypeId} {x y : Operand} (ho : o.op = .mapEntry t x y) (hx : okX x = true) (hy : okX y = true) (hz : (match P.underlying t with | some (.map _ el) => zOk P el | _ => true) = true) (hkt : keyT P t = true) (hk : opK P l e s o K) : Goes P o a w (Lv w0 m0 N e a K) := by
 simp only [opK, ho] at hk
 have rx := h.at hx
 have ry := h.at hy
 generalize hvx : a.eval x = vx at *
 generalize hvy : a.eval y = vy at *
 generalize ev e x = ux at *
 generalize ev e y = uy at *
 split at hk
 ·rename_i kt el id hu
  rw [hu] at hz
  simp only [keyT, hu] at hkt
  cases rx with
  | map _ _ β hβ =>
   rw [at?_eq] at hk
   split at hk
   ·rename_i ck es z hs hko hz0
    obtain ⟨d, hd, hck, hst⟩ := key_run hkt hko ry
    obtain ⟨ms, hh, hR, hlen⟩ := h.obj id _ β hs hβ
    simp only [fV_eq, litK_eq] at hk
    obtain ⟨r, q, hK, hf, hfnd⟩ := findK_sound hd hkt ry es ms hR hk
    have hf2 := hf w
    unfold Goes
    rcases hfnd with ⟨rfl, rfl⟩ | ⟨j, y', f, rfl, rfl, e1, e2, e3⟩
    ·obtain ⟨⟨hb⟩, ⟨hc⟩, hK⟩ := hK
     obtain ⟨zv, hzv, rfl, hok⟩ := run_zero (w := w) hz0 hz
     have hrun : (execOp a.eval o).run P w = .ok (.value (.tuple #[zv, .int .i64 ck])) (wset w β.blk (.map (ms ++ [({ key := vy, val := zv, born := ck } : MapEntry)]).toArray (ck + 1))) := by
      simp [execOp, ho, hvx, hvy, Instr.mapEntry, run_und hu, MapKept.run_getObj_map hh, hck, hf2, hzv, MapKept.run_setObj_map _ hh, Result.andThen, wset, goInt]
      try rfl
     rw [hrun]
     exact ⟨_, _, m, ι, hK, Rep.tupL (vs := [_, _]) (((RepL.nil m ι).cons (.int ι .i64 ck ((wrap_iff .i64 ck).2 (by simp only [kLo, kHi]; omega)))).cons (ofC_rep m ι zv hok)), h.writeM hs hβ hh (hR.push ⟨rfl, ry, ofC_rep m ι zv hok⟩) (by simp; omega)⟩
    ·subst e3
     obtain ⟨⟨hb⟩, hK⟩ := hK
     have hmod : (ms.toArray.modify j fun e => { e with key := f.key }) = ms.toArray := by
      apply Array.ext_getElem?
      intro i
      simp only [Array.getElem?_modify, List.getElem?_toArray]
      by_cases q : j = i
      ·subst q
       simp [e2]
      ·simp [q]
     obtain ⟨b1, rv1, rv⟩ := hR.2 j y' f e1 e2
     have hrun : (execOp a.eval o).run P w = .ok (.value (.tuple #[f.val, .int .i64 f.born])) (wset w β.blk (.map ms.toArray ck)) := by
      have : (execOp a.eval o).run P w = .ok (.value (.tuple #[f.val, .int .i64 f.born])) (wset w β.blk (.map (ms.toArray.modify j fun e => { e with key := f.key }) ck)) := by
       simp [execOp, ho, hvx, hvy, Instr.mapEntry, run_und hu, MapKept.run_getObj_map hh, hck, hf2, e2, hst, MapKept.run_setObj_map _ hh, Result.andThen, wset, goInt]
       try rfl
      rwa [hmod] at this
     rw [hrun]
     have := h.writeM (ck' := ck) hs hβ hh hR hlen
     rw [setAt_eq, set_same hs] at this
     refine ⟨_, _, m, ι, hK, Rep.tupL (vs := [_, _]) (((RepL.nil m ι).cons ?_).cons rv), this⟩
     rw [b1]
     exact .int ι .i64 y'.1 ((wrap_iff .i64 y'.1).2 (by simp only [kLo, kHi]; omega))
   ·exact hk.elim
 ·exact hk.elim
theorem updB_sound {b : Nat} {v : V} {x : Value} (rv : Rep m ι v x) : ∀ (es : List (Nat × V × V)) (ms : List MapEntry), RepM m ι es ms → (∃ y ∈ es, y.1 = b) →
  ∃ j f, ms.findIdx? (fun e => (e.born : Int) == (b : Int)) = some j ∧ ms[j]? = some f ∧ RepM m ι (updB b v es) (ms.set j { f with val := x })
 | [], _, _, h => by obtain ⟨y, hy, _⟩ := h; cases hy
 | _ :: _, [], hr, _ => by have := hr.1; simp at this
 | y :: es, f :: ms, hr, h => by
  obtain ⟨e1, r1, r2⟩ := hr.2 0 y f rfl rfl
  have hr2 : RepM m ι es ms := ⟨by have := hr.1; simpa using this, fun j x y hx hy => hr.2 (j + 1) x y (by simpa using hx) (by simpa using hy)⟩
  simp only [updB]
  split
  ·rename_i hb
   have hb := Nat.eq_of_beq_eq_true hb
   refine ⟨0, f, by simp [List.findIdx?_cons, e1, hb], rfl, ?_⟩
   have := hr.set 0 (y := (y.1, y.2.1, v)) (f := { f with val := x }) ⟨e1, r1, rv⟩
   simpa using this
  ·rename_i hb
   have hne : y.1 ≠ b := fun q => by rw [q] at hb; simp at hb
   obtain ⟨j, g, h1, h2, h3⟩ := updB_sound rv es ms hr2 (by
    obtain ⟨z, hz, hzb⟩ := h
    rcases List.mem_cons.1 hz with rfl | hz
    ·exact (hne hzb).elim
    ·exact ⟨z, hz, hzb⟩)
   refine ⟨j + 1, g, ?_, by simpa using h2, ?_⟩
   ·rw [List.findIdx?_cons, h1]
    have : ((f.born : Int) == (b : Int)) = false := by rw [e1]; simp; omega
    rw [this]
    rfl
   ·refine ⟨by have := h3.1; simp at this; simp [this], fun i p q hp hq => ?_⟩
    cases i with
    | zero => simp at hp hq; subst hp; subst hq; exact ⟨e1, r1, r2⟩
    | succ i => exact h3.2 i p q (by simpa using hp) (by simpa using hq)
theorem updB_length (b : Nat) (v : V) : ∀ es : List (Nat × V × V), (updB b v es).length = es.length
 | [] => rfl
 | y :: es => by simp only [updB]; split <;> simp [updB_length b v es]
theorem goes_entryStore (h : St w0 m0 N m ι e s a w) {t : TypeId} {x y z : Operand} (ho : o.op = .entryStore t x y z) (hx : okX x = true) (hy : okX y = true) (hz : okX z = true) (hk : opK P l e s o K) : Goes P o a w (Lv w0 m0 N e a K) := by
 simp only [opK, ho] at hk
 have rx := h.at hx
 have ry := h.at hy
 have rz := h.at hz
 generalize hvx : a.eval x = vx at *
 generalize hvy : a.eval y = vy at *
 generalize hvz : a.eval z = vz at *
 generalize ev e x = ux at *
 generalize ev e y = uy at *
 generalize ev e z = uz at *
 split at hk
 ·rename_i id kk n
  obtain ⟨rfl, _⟩ := ry.int_inv
  cases rx with
  | map _ _ β hβ =>
   rw [at?_eq] at hk
   split at hk
   ·rename_i ck es hs
    obtain ⟨ms, hh, hR, hlen⟩ := h.obj id _ β hs hβ
    simp only [fV_eq] at hk
    obtain ⟨⟨y, hy, hyn⟩, hK⟩ := hk
    obtain ⟨j, f, h1, h2, h3⟩ := updB_sound (b := n.toNat) rz es ms hR ⟨y, hy, by omega⟩
    have hn : ((n.toNat : Nat) : Int) = n := by omega
    rw [hn] at h1
    have hidx : ms.toArray.findIdx? (fun e => (e.born : Int) == n) = some j := by simpa using h1
    have hmod : (ms.toArray.modify j fun e => { e with val := vz }) = (ms.set j { f with val := vz }).toArray := by
     apply Array.ext_getElem?
     intro i
     simp only [Array.getElem?_modify, List.getElem?_toArray, List.getElem?_set]
     by_cases q : j = i
     ·subst q
      have hlt := (List.getElem?_eq_some_iff.1 h2).1
      have e4 : ms[j] = f := (List.getElem?_eq_some_iff.1 h2).2
      simp [h2, hlt, e4]
     ·simp [q]
    unfold Goes
    have hrun : (execOp a.eval o).run P w = .ok .skip (wset w β.blk (.map (ms.set j { f with val := vz }).toArray ck)) := by
     rw [← hmod]
     simp [execOp, ho, hvx, hvy, hvz, Instr.entryStore, MapKept.run_getObj_map hh, asInt, asIntOf, hidx, MapKept.run_setObj_map _ hh, Result.andThen, wset]
     try rfl
    rw [hrun]
    exact ⟨_, _, m, ι, hK, Rep.tupL (vs := []) (RepL.nil m ι), h.writeM hs hβ hh h3 (by rw [updB_length]; exact hlen)⟩
   ·exact hk.elim
 ·exact hk.elim
theorem delete_sound (h : St w0 m0 N m ι e s a w) {t ty kt el : TypeId} {id : Nat} {k : V} {xv kv : Value} (hu : P.underlying t = some (.map kt el)) (rx : Rep m ι (.map id) xv) (rk : Rep m ι k kv) {ts : Array TypeId} (hts : ts[0]? = some t)
  (hk : match at? s id, leafKey P kt k with
    | some (.map ck es), true => findK P kt k es 0 fun r => match r with | some (i, _) => K (.tup []) (setAt s id (.map ck (es.eraseIdx i))) | none => K (.tup []) s
    | _, _ => False) : ∃ x w', (Builtin.delete_ ts ty #[xv, kv]).run P w = .ok x w' ∧ Lv w0 m0 N e a K x w' := by
 cases rx with
 | map _ _ β hβ =>
  rw [at?_eq] at hk
  split at hk
  ·rename_i ck es hs hko
   obtain ⟨d, hd, hkey⟩ := keyOk_inv hko rk
   have hkn : keyN P kt = true := by
    unfold keyN
    unfold leafKey at hko
    split
    ·rename_i h1; simp [h1] at hko
    ·rfl
   obtain ⟨ms, hh, hR, hlen⟩ := h.obj id _ β hs hβ
   obtain ⟨r, q, hK, hf, hfnd⟩ := findK_sound hd hkn rk es ms hR hk
   have hf2 := hf w
   have hck := fun e => MapKept.run_checkKey (w := w) hd hkey e 9999
   rcases hfnd with ⟨rfl, rfl⟩ | ⟨j, y', f, rfl, rfl, e1, e2, e3⟩
   ·refine ⟨.tuple #[], wset w β.blk (.map ms.toArray ck), ?_, _, _, m, ι, hK, Rep.tupL (vs := []) (RepL.nil m ι), ?_⟩
    ·simp [Builtin.delete_, hts, run_und hu, MapKept.run_getObj_map hh, hck, hf2, MapKept.run_setObj_map _ hh, Result.andThen, wset]
    ·have := h.writeM (ck' := ck) hs hβ hh hR hlen
     rw [setAt_eq] at this
     have e4 : s.set id (.map ck es) = s := by
      apply List.ext_getElem?
      intro i
      rw [List.getElem?_set]
      by_cases q : id = i
      ·subst q; rw [if_pos rfl, hs]; simp [(List.getElem?_eq_some_iff.1 hs).1]
      ·rw [if_neg q]
     rwa [e4] at this
   ·simp only [Nat.zero_add] at hK hf2
    refine ⟨.tuple #[], wset w β.blk (.map (ms.eraseIdx j).toArray ck), ?_, _, _, m, ι, hK, Rep.tupL (vs := []) (RepL.nil m ι), h.writeM hs hβ hh (hR.erase j) (by have := List.length_eraseIdx_le es j; omega)⟩
    simp [Builtin.delete_, hts, run_und hu, MapKept.run_getObj_map hh, hck, hf2, MapKept.run_setObj_map _ hh, Result.andThen, wset]
    try rfl
  ·exact hk.elim
theorem raw_none (h : St w0 m0 N m ι e s a w) {b : Nat} {x : Obj} (hx : w.heap[b]? = some x) (hn : ∀ c e f, x ≠ .cells c e f) (k : Nat) : m b k = none := by
 cases q : m b k with
 | none => rfl
 | some v =>
  have := h.mok b k v q
  unfold World.cell? at this
  simp only [hx] at this
  cases x <;> first | exact absurd rfl (hn _ _ _) | cases this
theorem dec_wrap (s : ByteArray) (pos : Nat) : IntKind.i32.wrap ((Utf8.decode s pos).1 : Int) = (Utf8.decode s pos).1 := by
 refine (wrap_iff .i32 _).2 ?_
 simp only [kLo, kHi]
 have k0 := (s.get! pos).toNat_lt
 have k1 := (s.get! (pos + 1)).toNat_lt
 have k2 := (s.get! (pos + 2)).toNat_lt
 have k3 := (s.get! (pos + 3)).toNat_lt
 rw [Lib.decode_at]
 generalize (s.get! pos).toNat = b0 at *
 generalize (s.get! (pos + 1)).toNat = b1 at *
 generalize (s.get! (pos + 2)).toNat = b2 at *
 generalize (s.get! (pos + 3)).toNat = b3 at *
 unfold Lib.decodeN
 repeat' split
 all_goals dsimp only
 all_goals omega
theorem w64n {n : Nat} (h : n ≤ 9223372036854775807) : IntKind.i64.wrap (n : Int) = n := (wrap_iff .i64 _).2 (by simp only [kLo, kHi]; omega)
theorem goes_range (h : St w0 m0 N m ι e s a w) {t : TypeId} {x : Operand} (ho : o.op = .range t x) (hx : okX x = true) (hk : opK P l e s o K) : Goes P o a w (Lv w0 m0 N e a K) := by
 simp only [opK, ho] at hk
 have rx := h.at hx
 generalize hvx : a.eval x = vx at *
 generalize ev e x = ux at *
 split at hk
 ·rename_i kt el id hu
  cases rx with
  | map _ _ β hβ =>
   rw [at?_eq] at hk
   split at hk
   ·rename_i ck es hs
    rw [litK_eq] at hk
    obtain ⟨ms, hh, hR, hlen⟩ := h.obj id _ β hs hβ
    unfold Goes
    have hrun : (execOp a.eval o).run P w = .ok (.value (.pointer (some ⟨w.heap.size, 0, none⟩))) (wpush w (.mapIter (some β.blk) ck #[] ck)) := by
     have := run_range_map (P := P) w t kt el β.blk ms.toArray ck hu hh
     simp only [execOp, ho, hvx, Sem.run_bind, this, Result.andThen_ok, Sem.run_pure]
     rfl
    rw [hrun]
    refine ⟨_, _, m, _, hk, Rep.ptr _ _ 0 ⟨w.heap.size, 0, 0, 0⟩ (by rw [← h.len]; simp), h.push _ ⟨β, wpush_at w _, ?_, Nat.le_refl _⟩⟩
    rw [List.getElem?_append_left (List.getElem?_eq_some_iff.1 hβ).1]
    exact hβ
   ·exact hk.elim
 ·rename_i b hu
  obtain ⟨rfl, hb⟩ := rx.str_inv
  rw [litK_eq] at hk
  unfold Goes
  have hrun : (execOp a.eval o).run P w = .ok (.value (.pointer (some ⟨w.heap.size, 0, none⟩))) (wpush w (.stringIter b 0)) := by
   have := run_range_string (P := P) w t b hu
   simp only [execOp, ho, hvx, Sem.run_bind, this, Result.andThen_ok, Sem.run_pure]
   rfl
  rw [hrun]
  exact ⟨_, _, m, _, hk, Rep.ptr _ _ 0 ⟨w.heap.size, 0, 0, 0⟩ (by rw [← h.len]; simp), h.push _ ⟨wpush_at w _, fun _ _ _ q => by cases q⟩⟩
 ·exact hk.elim
theorem goes_next (h : St w0 m0 N m ι e s a w) {x : Operand} {b : Bool} (ho : o.op = .next x b) (hx : okX x = true) (hk : opK P l e s o K) : Goes P o a w (Lv w0 m0 N e a K) := by
 simp only [opK, ho] at hk
 have rx := h.at hx
 generalize hvx : a.eval x = vx at *
 generalize ev e x = ux at *
 split at hk
 ·rename_i id
  cases rx with
  | ptr _ _ _ β hβ =>
   rw [at?_eq] at hk
   split at hk
   ·rename_i mid since last seen hs
    rw [at?_eq] at hk
    split at hk
    ·rename_i ck es hm
     obtain ⟨⟨h1⟩, ⟨h2⟩, h3, h4⟩ := hk
     obtain ⟨βm, hit, hβm, hsl⟩ := h.obj id _ β hs hβ
     obtain ⟨ms, hh, hR, hlen⟩ := h.obj mid _ βm hm hβm
     have idx : ∀ f ∈ ms, ∃ y ∈ es, f.born = y.1 ∧ Rep m ι y.2.1 f.key ∧ Rep m ι y.2.2 f.val := by
      intro f hf
      obtain ⟨i, hi, rfl⟩ := List.mem_iff_getElem.1 hf
      exact ⟨es[i]'(hR.1 ▸ hi), List.getElem_mem _, hR.2 i _ _ (List.getElem?_eq_getElem _) (List.getElem?_eq_getElem hi)⟩
     have key := run_next_at (P := P) w o.type β.blk βm.blk since last seen.reverse.toArray ms.toArray ck hit hh (fun f hf => by obtain ⟨y, hy, e1, _⟩ := idx f (by simpa using hf); rw [e1]; exact h1 y hy) hsl
     unfold Goes
     rcases key with ⟨h0, hrun⟩ | ⟨f, hf, w1, hw1, hrun⟩
     ·have hrun' : (execOp a.eval o).run P w = .ok (.value (.tuple #[.bool false])) w := by
       simp only [execOp, ho, hvx, Sem.run_bind, hrun, Result.andThen_ok, Sem.run_pure]
      rw [hrun']
      refine ⟨_, s, m, ι, h3 ?_, Rep.tupL (vs := [_]) ((RepL.nil m ι).cons (.bool ι false)), h⟩
      rw [leftM, List.filter_eq_nil_iff]
      intro y hy
      obtain ⟨i, hi, rfl⟩ := List.mem_iff_getElem.1 hy
      have hi' : i < ms.length := hR.1 ▸ hi
      have hb := (hR.2 i _ _ (List.getElem?_eq_getElem hi) (List.getElem?_eq_getElem hi')).1
      have := Array.eq_empty_of_size_eq_zero h0
      unfold leftOf at this
      rw [Array.filter_eq_empty_iff] at this
      have := this ms[i] (by simp)
      simpa [hb] using this
     ·have hrun' : (execOp a.eval o).run P w = .ok (.value (.tuple #[.bool true, f.key, f.val])) (wset w1 β.blk (.mapIter (some βm.blk) since (seen.reverse.toArray.push f.born) ck)) := by
       simp only [execOp, ho, hvx, Sem.run_bind, hrun, Result.andThen_ok, Sem.run_pure]
       rfl
      rw [hrun']
      unfold leftOf at hf
      have hf : f ∈ ms ∧ ¬ f.born ∈ seen := by simpa using hf
      obtain ⟨y, hy, e1, r1, r2⟩ := idx f hf.1
      have h' : St w0 m0 N m ι e s a w1 := by
       rcases hw1 with rfl | rfl
       ·exact h
       ·exact h.drew _
      have hit' : w1.heap[β.blk]? = some (.mapIter (some βm.blk) since seen.reverse.toArray last) := by rcases hw1 with rfl | rfl <;> exact hit
      have hy2 : y ∈ leftM es seen := by
       rw [leftM, List.mem_filter]
       exact ⟨hy, by rw [← e1]; simpa using hf.2⟩
      refine ⟨_, _, m, ι, h4 y hy2, Rep.tupL (vs := [_, _, _]) ((((RepL.nil m ι).cons r2).cons r1).cons (.bool ι true)), ?_⟩
      rw [setAt_eq]
      refine h'.write hs hβ (by simp) (by simp) (map_none (id := id) (β := β) h' hit' (by simp)) ⟨βm, ?_, hβm, h2⟩
      rw [wset_heap, if_pos rfl, if_pos (h'.own id _ β hs hβ (by simp)).2, e1]
      simp
    ·exact hk.elim
   ·exact hk.elim
 ·rename_i id
  cases rx with
  | ptr _ _ _ β hβ =>
   rw [at?_eq] at hk
   split at hk
   ·rename_i b pos hs
    obtain ⟨hit, _⟩ := h.obj id _ β hs hβ
    have hlt : β.blk < w.heap.size := (h.own id _ β hs hβ (by simp)).2
    unfold Goes
    by_cases c : pos < b.size
    ·rw [decide_eq_true c] at hk
     obtain ⟨⟨hbs⟩, hk⟩ := hk
     have hrun : (execOp a.eval o).run P w = .ok (.value (.tuple #[.bool true, .int .i64 pos, .int .i32 (Utf8.decode b pos).1])) (wset w β.blk (.stringIter b (pos + (Utf8.decode b pos).2))) := by
      simp only [execOp, ho, hvx, Instr.next, getObj, setObj, Sem.run_bind, Sem.run, hit, Result.andThen, c, if_true]
      simp [goInt, Sem.run, hit, wset]
     rw [hrun]
     refine ⟨_, _, m, ι, hk, Rep.tupL (vs := [_, _, _]) ((((RepL.nil m ι).cons (.int ι .i32 _ (dec_wrap b pos))).cons (.int ι .i64 _ (w64n (by omega)))).cons (.bool ι true)), ?_⟩
     rw [setAt_eq]
     refine h.write hs hβ (by simp) (by simp) (raw_none h hit (fun _ _ _ q => by cases q)) ⟨?_, fun _ _ _ q => by cases q⟩
     rw [wset_heap, if_pos rfl, if_pos hlt]
    ·rw [decide_eq_false c] at hk
     have hrun : (execOp a.eval o).run P w = .ok (.value (.tuple #[.bool false])) w := by
      simp only [execOp, ho, hvx, Instr.next, getObj, Sem.run_bind, Sem.run, hit, Result.andThen, c, if_false]
      simp [Sem.run]
     rw [hrun]
     exact ⟨_, s, m, ι, hk, Rep.tupL (vs := [_]) ((RepL.nil m ι).cons (.bool ι false)), h⟩
   ·exact hk.elim
 ·exact hk.elim
theorem findB_get {b : Nat} {y : Nat × V × V} : ∀ (es : List (Nat × V × V)) (ms : List MapEntry), RepM m ι es ms → findB b es = some y → ∃ f, ms.find? (·.born == b) = some f ∧ Rep m ι y.2.1 f.key ∧ Rep m ι y.2.2 f.val
 | [], _, _, h => by cases h
 | _ :: _, [], hr, _ => by have := hr.1; simp at this
 | x :: es, f :: ms, hr, h => by
  obtain ⟨e1, r1, r2⟩ := hr.2 0 x f rfl rfl
  simp only [findB] at h
  split at h
  ·rename_i hb
   have hb := Nat.eq_of_beq_eq_true hb
   obtain rfl := Option.some.inj h
   exact ⟨f, by simp [e1, hb], r1, r2⟩
  ·rename_i hb
   have hne : x.1 ≠ b := fun q => by rw [q] at hb; simp at hb
   obtain ⟨g, h1, h2⟩ := findB_get es ms ⟨by have := hr.1; simpa using this, fun j x y hx hy => hr.2 (j + 1) x y (by simpa using hx) (by simpa using hy)⟩ h
   exact ⟨g, by rw [List.find?_cons_of_neg (by simp [e1, hne])]; exact h1, h2⟩
theorem goes_entry (h : St w0 m0 N m ι e s a w) {x : Operand} (ho : o.op = .entry x) (hx : okX x = true) (hk : opK P l e s o K) : Goes P o a w (Lv w0 m0 N e a K) := by
 simp only [opK, ho] at hk
 have rx := h.at hx
 generalize hvx : a.eval x = vx at *
 generalize ev e x = ux at *
 split at hk
 ·rename_i id
  cases rx with
  | ptr _ _ _ β hβ =>
   rw [at?_eq] at hk
   split at hk
   ·rename_i mid since last b seen hs
    rw [at?_eq] at hk
    split at hk
    ·rename_i ck es hm
     split at hk
     ·rename_i y hck hfb
      obtain rfl := Nat.eq_of_beq_eq_true hck
      obtain ⟨βm, hit, hβm, hsl⟩ := h.obj id _ β hs hβ
      obtain ⟨ms, hh, hR, hlen⟩ := h.obj mid _ βm hm hβm
      obtain ⟨f, hf, r1, r2⟩ := findB_get es ms hR hfb
      refine Goes.here h (x := .tuple #[f.key, f.val]) ?_ (Rep.tupL (vs := [_, _]) (((RepL.nil m ι).cons r2).cons r1)) hk
      have hf' : ms.toArray.find? (·.born == b) = some f := by rw [← Array.find?_toList]; exact hf
      have hbk : (b :: seen).reverse.toArray.back? = some b := by simp
      simp only [execOp, ho, hvx, Instr.entry, getObj, Sem.run_bind, Sem.run, hit, hh, Result.andThen, hbk, bne_self_eq_false, Bool.false_eq_true, if_false, hf']
      rfl
     ·exact hk.elim
    ·exact hk.elim
   ·exact hk.elim
 ·exact hk.elim
end
end Go.Proofs.YtcbknemdidehlaaGreatDoor.Ab
