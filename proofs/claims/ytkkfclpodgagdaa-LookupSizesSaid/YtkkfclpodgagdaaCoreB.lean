/- The rules of the small reckoner: what is owed at each piece of code. -/
import Derived.Test.YtkkfclpodgagdaaCoreA
namespace Go.Proofs.Ytkkfclpodgagdaa.Ab
set_option linter.unusedVariables false

/-- Memory that no one writes any more. -/
abbrev Mem := Nat → Nat → Option Value
def Mem.le (m m' : Mem) : Prop := ∀ b o v, m b o = some v → m' b o = some v
def Mem.ok (m : Mem) (w : World) : Prop := ∀ b o v, m b o = some v → w.cell? ⟨b, o, none⟩ = some v

/-- Where an object lies. -/
structure Blk where
  blk : Nat
  cap : Nat
  sz : Nat
  n : Nat

/-- A value without memory and the machine's value that it speaks of. -/
inductive Rep (m : Mem) : List Blk → V → Value → Prop
  | undef (ι : List Blk) (v : Value) : Rep m ι .undef v
  | int (ι : List Blk) (k : IntKind) (n : Int) (h : k.wrap n = n) : Rep m ι (.int k n) (.int k n)
  | bool (ι : List Blk) (b : Bool) : Rep m ι (.bool b) (.bool b)
  | str (ι : List Blk) (s : ByteArray) (h : s.size ≤ 9223372036854775807) : Rep m ι (.str s) (.string s)
  | nilFn (ι : List Blk) : Rep m ι .nilFn .nilFunc
  | nilPtr (ι : List Blk) : Rep m ι .nilPtr (.pointer none)
  | nilMap (ι : List Blk) : Rep m ι .nilMap (.map none)
  | nilI (ι : List Blk) : Rep m ι .nilI .nilIface
  | fn (ι : List Blk) (f : FuncId) (a b : List V) (va vb : List Value) (ha : a.length = va.length) (hb : b.length = vb.length)
      (ra : ∀ (i : Nat) (x : V) (y : Value), a[i]? = some x → va[i]? = some y → Rep m ι x y) (rb : ∀ (i : Nat) (x : V) (y : Value), b[i]? = some x → vb[i]? = some y → Rep m ι x y) :
      Rep m ι (.fn f a b) (.func (.func f) va.toArray vb.toArray)
  | iface (ι : List Blk) (t : TypeId) (v : V) (x : Value) (h : Rep m ι v x) : Rep m ι (.iface t v) (.iface t x)
  | ptr (ι : List Blk) (id off : Nat) (β : Blk) (h : ι[id]? = some β) : Rep m ι (.ptr id off) (.pointer (some ⟨β.blk, off, none⟩))
  | eptr (ι : List Blk) (id i off : Nat) (β : Blk) (h : ι[id]? = some β) : Rep m ι (.eptr id i off) (.pointer (some ⟨β.blk, i * β.sz + off, none⟩))
  | elem (ι : List Blk) (cs : List V) (b o : Nat) (g : Nat → Value) (hm : ∀ (j : Nat) (c : V), cs[j]? = some c → m b (o + j) = some (g j)) (hr : ∀ (j : Nat) (c : V), cs[j]? = some c → Rep m [] c (g j)) :
      Rep m ι (.elem cs) (.pointer (some ⟨b, o, none⟩))
  | row (ι : List Blk) (x : Bool) (els : List (List V)) (a : Option Addr) (cap sz b o : Nat) (g : Nat → Nat → Value)
      (hx : x = true → cap = els.length) (hc : els.length ≤ cap) (hl : els.length ≤ 9223372036854775807) (hs : ∀ e ∈ els, e.length = sz) (ha : els ≠ [] → a = some ⟨b, o, none⟩)
      (hm : ∀ (i j : Nat) (e : List V) (c : V), els[i]? = some e → e[j]? = some c → m b (o + i * sz + j) = some (g i j)) (hr : ∀ (i j : Nat) (e : List V) (c : V), els[i]? = some e → e[j]? = some c → Rep m [] c (g i j)) :
      Rep m ι (.row x els) (.slice a els.length cap)
  | sl (ι : List Blk) (id off len : Nat) (a : Option Addr) (cap : Nat) (β : Blk) (h : ι[id]? = some β) (hl : len ≤ cap) (hc : off + cap ≤ β.cap) (hn : off + len ≤ β.n) (hb : len ≤ 9223372036854775807)
      (ha : cap ≠ 0 → a = some ⟨β.blk, off * β.sz, none⟩) : Rep m ι (.sl id off len) (.slice a len cap)
  | map (ι : List Blk) (id : Nat) (β : Blk) (h : ι[id]? = some β) : Rep m ι (.map id) (.map (some β.blk))
  | agg (ι : List Blk) (cs : List V) (vs : List Value) (hl : cs.length = vs.length) (hr : ∀ (i : Nat) (x : V) (y : Value), cs[i]? = some x → vs[i]? = some y → Rep m ι x y) : Rep m ι (.agg cs) (.agg vs.toArray)
  | tup (ι : List Blk) (cs : List V) (vs : List Value) (hl : cs.length = vs.length) (hr : ∀ (i : Nat) (x : V) (y : Value), cs[i]? = some x → vs[i]? = some y → Rep m ι x y) : Rep m ι (.tup cs) (.tuple vs.toArray)

def RepL (m : Mem) (ι : List Blk) (cs : List V) (vs : List Value) : Prop := cs.length = vs.length ∧ ∀ (i : Nat) (x : V) (y : Value), cs[i]? = some x → vs[i]? = some y → Rep m ι x y

/-- A call, from the caller's side: of a function with a body, or of one that the model answers at once. -/
def CallsX (P : Program) (f : FuncId) (args : Array Value) (w : World) (R : Value → World → Prop) : Prop :=
  match (callFunc f args).run P w with
  | .ok (.enter g as) w1 => Calls P g as w1 fun e w' => ∃ v, e = .returned v ∧ R v w'
  | .ok (.value v) w1 => R v w1
  | _ => False

/-- `f` of these arguments returns `r` (values without memory), and what was there stays. -/
def Ret (P : Program) (f : FuncId) (args : List V) (r : V) : Prop :=
  ∀ (m : Mem) (w : World) (vs : List Value), m.ok w → RepL m [] args vs →
    CallsX P f vs.toArray w fun v w' => ∃ m' : Mem, m.le m' ∧ m'.ok w' ∧ Rep m' [] r v ∧ RowKit.Below w.heap.size w w' ∧ ∀ b o x, m' b o = some x → m b o = none → w.heap.size ≤ b

/-- What is known of a value that came in: numbers are within their kinds, texts and rows are not too long. -/
def wfV : Nat → V → Prop
  | 0, _ => True
  | _ + 1, .int k n => k.wrap n = n
  | _ + 1, .str s => s.size ≤ 9223372036854775807
  | n + 1, .row _ els => els.length ≤ 9223372036854775807 ∧ ∀ e ∈ els, ∀ c ∈ e, wfV n c
  | n + 1, .elem cs => ∀ c ∈ cs, wfV n c
  | n + 1, .agg cs => ∀ c ∈ cs, wfV n c
  | n + 1, .tup cs => ∀ c ∈ cs, wfV n c
  | _ + 1, _ => True

/-- Pieces of a call's work. -/
def appendG (P : Program) (i : TypeInfo) (d : V) (new : List (List V)) (s : List O) (K : V → List O → Prop) : Prop :=
  match d with
  | .row true els => csplit new.isEmpty (K d s) (Sd (∀ e ∈ new, e.length = i.size) ∧ Sd (∀ e ∈ els, e.length = i.size) ∧ Sd ((els.length + new.length) * (i.bytes + 1) ≤ 140737488355327) ∧
      litK s.length fun n => K (.sl n 0 (els.length + new.length)) (s ++ [.arr true i.size (els ++ new)]))
  | .sl id off len => match at? s id with
    | some (.arr w sz els) => match Nat.beq sz i.size, Nat.beq off 0 with
      | true, true => csplit new.isEmpty (K d s) (Sd (len = els.length) ∧ Sd (∀ e ∈ new, e.length = i.size) ∧ Sd (∀ e ∈ new, ∀ c ∈ e, leafV c = true) ∧ Sd ((els.length + new.length) * (i.bytes + 1) ≤ 140737488355327) ∧
          litK s.length fun n => K (.sl n 0 (els.length + new.length)) (setAt s id .gone ++ [.arr w sz (els ++ new)]))
      | _, _ => False
    | _ => False
  | _ => False
def appendK (P : Program) (t u : TypeId) (d y : V) (s : List O) (K : V → List O → Prop) : Prop :=
  match P.underlying t with
  | some (.slice el) =>
    match P.info? el with
    | some i => match i.zero with
      | some z => match Nat.beq z.cells.size i.size, Nat.blt 0 i.size with
        | true, true => match P.underlying u, y with
          | some (.slice _), .row _ new => appendG P i d new s K
          | some (.slice _), .sl id off len => match at? s id with
            | some (.arr _ sz els) => match Nat.beq sz i.size with | true => appendG P i d ((els.drop off).take len) s K | false => False
            | _ => False
          | some .string, .str b => match Nat.beq i.size 1 with | true => appendG P i d (b.data.toList.map fun c => [.int .u8 c.toNat]) s K | false => False
          | _, _ => False
        | _, _ => False
      | none => False
    | none => False
  | _ => False

def lenK (P : Program) (t : TypeId) (x : V) (s : List O) (K : V → Prop) : Prop :=
  match P.underlying t with
  | some .string => match x with | .str b => (b.size ≤ 9223372036854775807 → K (.int .i64 b.size)) | _ => False
  | some (.slice _) => match x with
    | .row _ els => (els.length ≤ 9223372036854775807 → K (.int .i64 els.length))
    | .sl _ _ len => (len ≤ 9223372036854775807 → K (.int .i64 len))
    | _ => False
  | some (.array n _) => Sd (n ≤ 9223372036854775807) ∧ K (.int .i64 n)
  | some (.map _ _) => match x with
    | .nilMap => K (.int .i64 0)
    | .map id => match at? s id with | some (.map _ es) => (es.length ≤ 9223372036854775807 → K (.int .i64 es.length)) | _ => False
    | _ => False
  | _ => False

def builtinK (P : Program) (b : Builtin) (ts : Array TypeId) (args : List V) (s : List O) (K : V → List O → Prop) : Prop :=
  match b, args with
  | .len, [x] => match ts[0]? with | some t => lenK P t x s (fun v => K v s) | none => False
  | .append, [d, y] => match ts[0]?, ts[1]? with | some t, some u => appendK P t u d y s K | _, _ => False
  | .max, [.int k x, .int j y] => match decide (k = j) with | true => K (.int k (if y > x then y else x)) s | false => False
  | .min, [.int k x, .int j y] => match decide (k = j) with | true => K (.int k (if y < x then y else x)) s | false => False
  | _, _ => False

def callK (P : Program) (e : Env) (c : Call) (s : List O) (K : V → List O → Prop) : Prop :=
  match c.callee with
  | .builtin b => builtinK P b c.argTypes (c.args.toList.map (ev e)) s K
  | .value f => match ev e f with
    | .fn g fs cs => fL (fV 8) ((fs ++ c.args.toList.map (ev e) ++ cs).map (frz 8 s)) fun args => ∃ r, Ret P g args r ∧ (wfV 8 r → K r (mark s ((fs ++ c.args.toList.map (ev e) ++ cs).flatMap (idl 8 s))))
    | _ => False
  | .invoke _ _ => False

def convK (P : Program) (src dst : TypeId) (x : V) (s : List O) (K : V → List O → Prop) : Prop :=
  match P.underlying src, P.underlying dst, x with
  | some _, some (.int k), .int _ n => K (.int k (k.wrap n)) s
  | some _, some .string, .str b => K (.str b) s
  | some (.slice el), some .string, x => match P.underlying el with
    | some (.int .u8) => match x with
      | .row _ els => (∀ l, bytesV els = some l → K (.str (ByteArray.mk (l.map fun n => UInt8.ofNat n.toNat).toArray)) s) ∧ Sd ((bytesV els).isSome = true)
      | .sl id off len => match at? s id with
        | some (.arr _ _ els) => (∀ l, bytesV ((els.drop off).take len) = some l → K (.str (ByteArray.mk (l.map fun n => UInt8.ofNat n.toNat).toArray)) s) ∧ Sd ((bytesV ((els.drop off).take len)).isSome = true)
        | _ => False
      | _ => False
    | _ => False
  | some .string, some (.slice el), .str b => match P.underlying el, szT P el with
    | some (.int .u8), some 1 => Sd (b.size ≤ 140737488355327) ∧ litK s.length fun n => K (.sl n 0 b.size) (s ++ [.arr true 1 (b.data.toList.map fun c => [.int .u8 c.toNat])])
    | _, _ => False
  | _, _, _ => False

def sliceK (P : Program) (t : TypeId) (x : V) (lo hi mx : Option V) (s : List O) (K : V → Prop) : Prop :=
  match P.underlying t, x with
  | some .string, .str b => match mx with
    | none => lowK lo fun l => highK b.size hi fun h => Sd (0 ≤ l ∧ l ≤ h ∧ h ≤ b.size) ∧ K (.str (b.extract l.toNat h.toNat))
    | some _ => False
  | some (.slice el), .row x els =>
    match szT P el with
    | some z => match mx with
      | none => lowK lo fun l => highK els.length hi fun h => Sd (0 ≤ l ∧ l ≤ h ∧ h ≤ els.length) ∧ Sd (∀ e ∈ els, e.length = z) ∧ K (.row (x && decide (h = els.length)) ((els.drop l.toNat).take (h - l).toNat))
      | some m => match hi with
        | none => False
        | some hv => lowK lo fun l => lowK (some hv) fun h => lowK (some m) fun m => Sd (0 ≤ l ∧ l ≤ h ∧ h ≤ m ∧ m ≤ els.length) ∧ Sd (∀ e ∈ els, e.length = z) ∧ K (.row (decide (h = m)) ((els.drop l.toNat).take (h - l).toNat))
    | none => False
  | some (.slice el), .sl id off len => match mx, at? s id, szT P el with
    | none, some (.arr _ sz els), some z => match Nat.beq sz z with
      | true => lowK lo fun l => highK len hi fun h => Sd (0 ≤ l ∧ l ≤ h ∧ h ≤ len) ∧ K (.sl id (off + l.toNat) (h - l).toNat)
      | false => False
    | _, _, _ => False
  | _, _ => False

/-- One operation. -/
def opK (P : Program) (e : Env) (s : List O) (o : Oper) (K : V → List O → Prop) : Prop :=
  match o.op with
  | .move x => K (ev e x) s
  | .assign x => K (ev e x) s
  | .pick c a b => match ev e c with | .bool t => csplit t (K (ev e a) s) (K (ev e b) s) | _ => False
  | .alloc t => match (zeroT P t).bind cellsV with | some cs => litK s.length fun n => K (.ptr n 0) (s ++ [.box true cs]) | none => False
  | .box t x => match cellsV (ev e x) with | some cs => litK s.length fun n => K (.ptr n 0) (s ++ [.box true cs]) | none => False
  | .build t ps =>
    match P.underlying t, (zeroT P t).bind cellsV with
    | some (.struct fs), some z => match fillS P fs z (ps.toList.map fun (i, x) => (i, ev e x)) with | some cs => K (.agg cs) s | none => False
    | some (.array _ el), some z => match szT P el with
      | some n => match fillA n z (ps.toList.map fun (i, x) => (i, ev e x)) with | some cs => K (.agg cs) s | none => False
      | none => False
    | _, _ => False
  | .buildSlice t len ps =>
    match P.underlying t with
    | some (.slice el) => match (zeroT P el).bind cellsV, szT P el with
      | some z, some n => match Nat.ble (len * n) 16777216, Nat.beq z.length n, Nat.blt 0 n, fillR n (List.replicate len z) (ps.toList.map fun (i, x) => (i, frz 8 s (ev e x))) with
        | true, true, true, some els => K (.row true els) (mark s (ps.toList.flatMap fun (_, x) => idl 8 s (ev e x)))
        | _, _, _, _ => False
      | _, _ => False
    | _ => False
  | .load t a =>
    match ev e a with
    | .ptr id off => match at? s id with | some (.box _ cs) => (match ldV P t (cs.drop off) with | some v => K v s | none => False) | _ => False
    | .elem cs => match ldV P t cs with | some v => K v s | none => False
    | .eptr id i off => match at? s id with
      | some (.arr _ _ els) => Sd (i < els.length) ∧ ∀ cs, els[i]? = some cs → match ldV P t (cs.drop off) with | some v => K v s | none => False
      | _ => False
    | _ => False
  | .store t a x =>
    match ev e a, cellsV (ev e x), szT P t with
    | .ptr id off, some new, some n => match at? s id with
      | some (.box true cs) => match Nat.beq new.length n, Nat.ble (off + new.length) cs.length, new.all leafV with
        | true, true, true => K (.tup []) (setAt s id (.box true (splice cs off new)))
        | _, _, _ => False
      | _ => False
    | .eptr id i off, some new, some n => match at? s id with
      | some (.arr true sz els) => Sd (i < els.length) ∧ ∀ cs, els[i]? = some cs → match Nat.beq new.length n, Nat.ble (off + new.length) cs.length, new.all leafV with
        | true, true, true => K (.tup []) (setAt s id (.arr true sz (setAt els i (splice cs off (new.map (ren 8 []))))))
        | _, _, _ => False
      | _ => False
    | _, _, _ => False
  | .nilCheck x => match notNil (ev e x) with
    | true => K (ev e x) s
    | false => False
  | .binOp op t x y _ => binK P op t (ev e x) (ev e y) fun v => K v s
  | .unOp op _ x => unK op (ev e x) fun v => K v s
  | .convert a b x => convK P a b (ev e x) s K
  | .makeInterface t x => match P.underlying t with | some (.interface _) => False | some _ => K (.iface t (ev e x)) s | none => False
  | .typeAssert x xt at_ ok =>
    match P.underlying at_ with
    | some (.interface _) => False
    | some _ => match ev e x with
      | .iface t v => match Nat.beq t at_ with
        | true => match ok with | true => K (.tup [v, .bool true]) s | false => K v s
        | false => match ok, zeroT P at_ with | true, some z => K (.tup [z, .bool false]) s | _, _ => False
      | .nilI => match ok, zeroT P at_ with | true, some z => K (.tup [z, .bool false]) s | _, _ => False
      | _ => False
    | none => False
  | .makeFunc fn a b => match fn with | .func f => K (.fn f (a.toList.map (ev e)) (b.toList.map (ev e))) s | _ => False
  | .slice t x lo hi mx => sliceK P t (ev e x) (lo.map (ev e)) (hi.map (ev e)) (mx.map (ev e)) s fun v => K v s
  | .fieldAddr t x i =>
    match P.underlying t with
    | some (.struct fs) => match fs[i]? with
      | some f => match szT P f.type with
        | some (_ + 1) => match ev e x with
          | .ptr id off => litK f.offset fun fo => K (.ptr id (off + fo)) s
          | .eptr id j off => litK f.offset fun fo => K (.eptr id j (off + fo)) s
          | .elem cs => K (.elem (cs.drop f.offset)) s
          | _ => False
        | _ => False
      | none => False
    | _ => False
  | .field t x i =>
    match P.underlying t, ev e x with
    | some (.struct fs), .agg cs => match fs[i]? with
      | some f => match ldV P f.type (cs.drop f.offset) with | some v => K v s | none => False
      | none => False
    | _, _ => False
  | .indexAddr t x i =>
    match P.underlying t, ev e x, ev e i with
    | some (.slice el), .row _ els, .int _ n => match szT P el with
      | some z => Sd (0 ≤ n ∧ n < els.length) ∧ ∀ cs, els[n.toNat]? = some cs → Sd (cs.length = z) ∧ K (.elem cs) s
      | none => False
    | some (.slice el), .sl id off len, .int _ n => match at? s id, szT P el with
      | some (.arr _ sz els), some z => match Nat.beq sz z with
        | true => Sd (0 ≤ n ∧ n < len) ∧ K (.eptr id (off + n.toNat) 0) s
        | false => False
      | _, _ => False
    | some (.array len el), .ptr id off, .int _ n => match szT P el with
      | some z => Sd (0 ≤ n ∧ n < len) ∧ K (.ptr id (off + n.toNat * z)) s
      | none => False
    | some (.array len el), .elem cs, .int _ n => match szT P el with
      | some z => Sd (0 ≤ n ∧ n < len) ∧ K (.elem (cs.drop (n.toNat * z))) s
      | none => False
    | _, _, _ => False
  | .index t x i =>
    match P.underlying t, ev e x, ev e i with
    | some .string, .str b, .int _ n => Sd (0 ≤ n ∧ n < b.size) ∧ ∀ c, b[n.toNat]? = some c → K (.int .u8 c.toNat) s
    | some (.array len el), .agg cs, .int _ n => match szT P el with
      | some z => Sd (0 ≤ n ∧ n < len) ∧ Sd ((ldV P el (cs.drop (n.toNat * z))).isSome = true) ∧ ∀ v, ldV P el (cs.drop (n.toNat * z)) = some v → K v s
      | none => False
    | _, _, _ => False
  | .extract t i => match ev e t with | .tup vs => (match at? vs i with | some v => K v s | none => False) | _ => False
  | .call c => callK P e c s K
  | _ => False

/-- Operations, one after the other. (Laid out by the recursor itself, so that the kernel and the elaborator unfold it alike.) -/
def opsC (P : Program) (all : Array Oper) (o : Oper) (ih : (Env → List O → Prop) → Env → List O → Prop) (K : Env → List O → Prop) (e : Env) (s : List O) : Prop :=
  match o.guard with
  | none => opK P e s o fun v s' => fV 4 v fun v => fL fO s' fun s' => putK e o.dst v fun e => ih K e s'
  | some (j, want) =>
    match (all[j]?).bind (·.dst) with
    | some t => match e.get t with
      | .bool b => match want with
        | true => csplit b (setK e t (.bool true) fun e => opK P e s o fun v s' => fV 4 v fun v => fL fO s' fun s' => putK e o.dst v fun e => ih K e s') (setK e t (.bool false) fun e => putK e o.dst (.tup []) fun e => ih K e s)
        | false => csplit b (setK e t (.bool true) fun e => putK e o.dst (.tup []) fun e => ih K e s) (setK e t (.bool false) fun e => opK P e s o fun v s' => fV 4 v fun v => fL fO s' fun s' => putK e o.dst v fun e => ih K e s')
      | .tup [] => putK e o.dst (.tup []) fun e => ih K e s
      | _ => False
    | none => False
noncomputable def opsK (P : Program) (all : Array Oper) (l : List Oper) : (Env → List O → Prop) → Env → List O → Prop :=
  List.rec (motive := fun _ => (Env → List O → Prop) → Env → List O → Prop) (fun K e s => K e s) (fun o _ ih => opsC P all o ih) l
theorem opsK_nil (P : Program) (all : Array Oper) (K : Env → List O → Prop) (e : Env) (s : List O) : opsK P all [] K e s = K e s := rfl
theorem opsK_cons (P : Program) (all : Array Oper) (o : Oper) (os : List Oper) (K : Env → List O → Prop) (e : Env) (s : List O) : opsK P all (o :: os) K e s = opsC P all o (opsK P all os) K e s := rfl

inductive Ex where
  | nrm
  | ext (id : Nat)
  | rtn

abbrev Qs := Ex → Env → List O → Prop
abbrev Ws := Qs → Env → List O → Prop
/-! Regions that draw their order: what is owed at their end. -/
def topId : V → Option Nat
  | .ptr i _ => some i
  | .eptr i _ _ => some i
  | .sl i _ _ => some i
  | .map i => some i
  | _ => none
/-- Operations that may freeze what they are given. -/
def mild : Op → Bool
  | .buildSlice _ _ _ => true
  | .call { callee := .value _, .. } => true
  | _ => false
/-- A value that meets no object of the frame. -/
def clo : Nat → V → Bool
  | 0, _ => false
  | _ + 1, .ptr _ _ => false
  | _ + 1, .eptr _ _ _ => false
  | _ + 1, .sl _ _ _ => false
  | _ + 1, .map _ => false
  | n + 1, .fn _ a b => a.all (clo n) && b.all (clo n)
  | n + 1, .iface _ v => clo n v
  | n + 1, .agg cs => cs.all (clo n)
  | n + 1, .tup cs => cs.all (clo n)
  | _ + 1, _ => true
def closedO (e : Env) (o : Oper) : Bool := o.op.operands.toList.all fun x => clo 8 (ev e x)
/-- The operands whose objects are looked into. -/
def looks : Op → List Operand
  | .load _ x => [x]
  | .convert _ _ x => [x]
  | .slice _ x _ _ _ => [x]
  | .indexAddr _ x _ => [x]
  | .call { callee := .builtin _, args := args, .. } => args.toList
  | _ => []
/-- The object that a store writes. -/
def tg (e : Env) (o : Oper) : Option Nat := match o.op with | .store _ a _ => topId (ev e a) | _ => none
def apartB (e : Env) (x y : Oper) : Bool := match tg e x with | some k => (looks y.op).all (fun z => match topId (ev e z) with | some j => !Nat.beq j k | none => true) | none => true
/-- What is owed at the end of a region that draws its order. -/
def drawDue (ops : Array Oper) (C : List Nat) (L : List (Nat × Nat)) (e : Env) : Bool :=
  (C.all fun i => match at? ops.toList i with | some o => closedO e o | none => true) &&
  (L.all fun p => match at? ops.toList p.1, at? ops.toList p.2 with | some x, some y => apartB e x y && apartB e y x | _, _ => true)

def gl : List (Nat × List Nat × List (Nat × Nat)) → Nat → List Nat × List (Nat × Nat)
  | [], _ => ([], [])
  | (k, x) :: l, n => match Nat.beq k n with | true => x | false => gl l n
def cRegion (P : Program) (H : Nat → Option (List Nat)) (G : List (Nat × List Nat × List (Nat × Nat))) (id : Nat) (ops : Array Oper) (d : Bool) (Q : Qs) (e : Env) (s : List O) : Prop :=
  match d with
  | false => opsK P ops ops.toList (fun e s => match H id with | some ks => keepK (fun v => v) e ks fun e => Q .nrm e s | none => Q .nrm e s) e s
  | true => match gl G id with
    | (C, L) => opsK P ops ops.toList (fun e s => match drawDue ops C L e with
      | true => match H id with | some ks => keepK (fun v => v) e ks fun e => Q .nrm e s | none => Q .nrm e s
      | false => False) e s
def cSeq (a b : Ws) (Q : Qs) (e : Env) (s : List O) : Prop := a (fun x e s => match x with | .nrm => b Q e s | .ext i => Q (.ext i) e s | .rtn => Q .rtn e s) e s
def cCond (c : Operand) (a b : Ws) (Q : Qs) (e : Env) (s : List O) : Prop := match ev e c with | .bool t => csplit t (setB e c true fun e => a Q e s) (setB e c false fun e => b Q e s) | _ => False
def cBlock (id : Nat) (b : Ws) (Q : Qs) (e : Env) (s : List O) : Prop :=
  b (fun x e s => match x with | .nrm => Q .nrm e s | .ext i => (match Nat.beq i id with | true => Q .nrm e s | false => Q (.ext i) e s) | .rtn => Q .rtn e s) e s
/-- A loop: which slots and objects are kept at its head, what they are there (`E`, `S`, by some data of which `J` holds), and a measure. -/
def Looped (b : Ws) (Q : Qs) (e : Env) (s : List O) : Prop :=
  ∃ (σ : Type) (ks g : List Nat) (E : σ → Env) (S : σ → List O) (J : σ → Prop) (μ : σ → Nat), nd g = true ∧
      (keepK (ren 8 g) e ks fun e => fL fO (selO s g) fun s => ∃ x, e = E x ∧ s = S x ∧ J x) ∧
      ∀ x, J x → b (fun y e' s' => match y with
        | .nrm => keepK (ren 8 g) e' ks fun e' => fL fO (selO s' g) fun s' => ∃ z, e' = E z ∧ s' = S z ∧ J z ∧ μ z < μ x
        | .ext i => Q (.ext i) e' s'
        | .rtn => Q .rtn e' s') (E x) (S x)
/-- What is owed for a piece of code. `H` tells which slots are kept behind a region (a hint: what is not kept is forgotten), `G` what is owed of a region that draws its order. -/
noncomputable def awp (P : Program) (H : Nat → Option (List Nat)) (G : List (Nat × List Nat × List (Nat × Nat))) (c : Code) : Ws :=
  Code.rec (motive := fun _ => Ws) (fun Q e s => Q .nrm e s) (fun id ops d => cRegion P H G id ops d) (fun _ _ a b => cSeq a b) (fun c _ _ a b => cCond c a b) (fun id _ b => cBlock id b) (fun _ b => Looped b)
    (fun _ _ _ _ _ _ _ _ _ => False) (fun id Q e s => Q (.ext id) e s) (fun _ _ _ _ _ => False) (fun _ _ _ _ => False) (fun _ _ _ _ => False) (fun Q e s => Q .rtn e s) (fun _ _ _ _ => False) c

/-- The results, read at the end. -/
def resV (P : Program) (e : Env) (s : List O) : ResultVar → Option V
  | .tmp t => some (e.get t)
  | .cell a t => match e.get a with | .ptr id off => (match at? s id with | some (.box _ cs) => ldV P t (cs.drop off) | _ => none) | _ => none
def resL (P : Program) (e : Env) (s : List O) : List ResultVar → Option (List V)
  | [] => some []
  | x :: xs => match resV P e s x, resL P e s xs with | some v, some vs => some (v :: vs) | _, _ => none
def resE (P : Program) (rs : List ResultVar) (r : V) (e : Env) (s : List O) : Prop :=
  match resL P e s rs with
  | some [v] => fV 8 (frz 8 s v) fun v => v = r
  | some vs => fV 8 (V.tup (vs.map (frz 7 s))) fun v => v = r
  | none => False
def finK (P : Program) (rs : List ResultVar) (r : V) (x : Ex) (e : Env) (s : List O) : Prop :=
  match x with | .nrm => resE P rs r e s | .rtn => resE P rs r e s | .ext _ => False
def env0 (args : List V) : Env := args.zipIdx.map fun (v, i) => (i, v)
end Go.Proofs.Ytkkfclpodgagdaa.Ab
