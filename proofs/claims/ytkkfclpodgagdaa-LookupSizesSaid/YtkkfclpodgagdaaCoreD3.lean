/- A region that draws its order gives what it gives in the order of its text. -/
import Derived.Test.YtkkfclpodgagdaaCoreD2
namespace Go.Proofs.Ytkkfclpodgagdaa.Ab
open Go.RowKit
set_option linter.unusedVariables false
set_option linter.unusedSimpArgs false

/-- What must have run ahead of each operation, as bits. -/
def msk (acc : List Nat) (o : Oper) : Nat := o.after.toList.foldl (fun m e => match Region.binds .any e with | true => m ||| 2 ^ e.on ||| (at? acc e.on).getD 0 | false => m) 0
def msks : List Oper → List Nat → List Nat
  | [], acc => acc
  | o :: os, acc => msks os (acc ++ [msk acc o])
def tmpOf : Operand → Option Tmp
  | .tmp t => some t
  | _ => none
def nms (ops : Array Oper) (o : Oper) : List Tmp :=
  o.dst.toList ++ o.op.operands.toList.filterMap tmpOf ++ (match o.guard with | some (j, _) => ((ops[j]?).bind (·.dst)).toList | none => [])
def isStore : Op → Bool
  | .store _ _ _ => true
  | _ => false
def hasDst (o : Oper) (l : List Tmp) : Bool := match o.dst with | some t => l.any (Nat.beq t) | none => false
/-- One writes a slot that the other looks at. -/
def boundS (ops : Array Oper) (x y : Oper) : Bool := hasDst x (nms ops y) || hasDst y (nms ops x)
/-- Quiet by its kind, or told to be. -/
def quietC (P : Program) (C : List Nat) (i : Nat) (o : Oper) : Bool := quiet P o.op || C.any (Nat.beq i)
/-- Two operations whose order may tell in the objects. -/
def boundO (P : Program) (C : List Nat) (i : Nat) (x : Oper) (j : Nat) (y : Oper) : Bool := (!quietC P C i x && !quietC P C j y) || (isStore x.op && !(looks y.op).isEmpty) || (isStore y.op && !(looks x.op).isEmpty)
def exempt (P : Program) (L : List (Nat × Nat)) (i : Nat) (x : Oper) (j : Nat) (y : Oper) : Bool :=
  (L.any fun p => Nat.beq i p.1 && Nat.beq j p.2) && ((isStore x.op && quiet P y.op) || (quiet P x.op && isStore y.op))
def pairsOk (P : Program) (ops : Array Oper) (C : List Nat) (L : List (Nat × Nat)) : List (Oper × Nat) → List (Oper × Nat) → Bool
  | _, [] => true
  | acc, (y, m) :: l => (acc.zipIdx.all fun ((x, _), i) => m.testBit i || (!boundS ops x y && (!boundO P C i x acc.length y || exempt P L i x acc.length y))) && pairsOk P ops C L (acc ++ [(y, m)]) l
/-- No slot that it looks at is written from here on. -/
def lastOk (ops : Array Oper) (i : Nat) (o : Oper) : Bool :=
  o.op.operands.toList.all fun x => match x with | .tmp t => ((ops.toList.drop i).all fun p => match p.dst with | some d => !Nat.beq d t | none => true) | _ => true
def drawOk (P : Program) (ops : Array Oper) (C : List Nat) (L : List (Nat × Nat)) : Bool :=
  ops.toList.all (fun o => drawable o.op) && (ops.toList.zipIdx.all fun (o, i) => o.after.toList.all fun e => !Region.binds .any e || Nat.blt e.on i) && pairsOk P ops C L [] (ops.toList.zip (msks ops.toList [])) &&
  (C.all fun i => match at? ops.toList i with | some o => mild o.op && lastOk ops i o | none => true) &&
  (L.all fun p => (match at? ops.toList p.1 with | some o => lastOk ops p.1 o | none => true) && (match at? ops.toList p.2 with | some o => lastOk ops p.2 o | none => true))
theorem foldl_bits (acc : List Nat) (k : Nat) : ∀ (l : List Edge) (m : Nat), (l.foldl (fun m e => match Region.binds .any e with | true => m ||| 2 ^ e.on ||| (at? acc e.on).getD 0 | false => m) m).testBit k = true →
    m.testBit k = true ∨ ∃ e ∈ l, Region.binds .any e = true ∧ (k = e.on ∨ ((at? acc e.on).getD 0).testBit k = true)
  | [], m, h => .inl h
  | e :: l, m, h => by
    simp only [List.foldl_cons] at h
    rcases foldl_bits acc k l _ h with q | ⟨x, hx, q⟩
    · split at q
      · rename_i hb
        simp only [Nat.testBit_or, Bool.or_eq_true, Nat.testBit_two_pow, decide_eq_true_eq] at q
        rcases q with (q | q) | q
        · exact .inl q
        · exact .inr ⟨e, List.mem_cons_self, hb, .inl q.symm⟩
        · exact .inr ⟨e, List.mem_cons_self, hb, .inr q⟩
      · exact .inl q
    · exact .inr ⟨x, List.mem_cons_of_mem _ hx, q⟩
theorem msk_bits {acc : List Nat} {o : Oper} {k : Nat} (h : (msk acc o).testBit k = true) : ∃ e ∈ o.after.toList, Region.binds .any e = true ∧ (k = e.on ∨ ((at? acc e.on).getD 0).testBit k = true) := by
  rcases foldl_bits acc k _ 0 h with q | q
  · simp at q
  · exact q
/-- The bits of the i-th operation. -/
theorem msks_get : ∀ (os : List Oper) (acc : List Nat), ∃ l, msks os acc = acc ++ l ∧ l.length = os.length ∧ ∀ (i : Nat) o, os[i]? = some o → l[i]? = some (msk (acc ++ l.take i) o)
  | [], acc => ⟨[], by simp [msks], rfl, by simp⟩
  | o :: os, acc => by
    obtain ⟨l, h1, h2, h3⟩ := msks_get os (acc ++ [msk acc o])
    refine ⟨msk acc o :: l, by rw [msks, h1]; simp, by simp [h2], fun i p hp => ?_⟩
    cases i with
    | zero => simp at hp; subst hp; simp
    | succ i =>
      have := h3 i p (by simpa using hp)
      simpa using this
theorem pairsOk_get {P : Program} {ops : Array Oper} {C : List Nat} {L : List (Nat × Nat)} : ∀ (l acc : List (Oper × Nat)), pairsOk P ops C L acc l = true → ∀ (i j : Nat) x m y k, (acc ++ l)[i]? = some (x, m) → (acc ++ l)[j]? = some (y, k) → acc.length ≤ j → i < j →
    k.testBit i = true ∨ (boundS ops x y = false ∧ (boundO P C i x j y = false ∨ exempt P L i x j y = true))
  | [], acc, _, i, j, x, m, y, k, hi, hj, hl, hij => by
    have := (List.getElem?_eq_some_iff.1 hj).1
    simp at this
    omega
  | (z, mz) :: l, acc, h, i, j, x, m, y, k, hi, hj, hl, hij => by
    simp only [pairsOk, Bool.and_eq_true] at h
    rcases Nat.lt_or_ge acc.length j with q | q
    · refine pairsOk_get l (acc ++ [(z, mz)]) h.2 i j x m y k (by simpa using hi) (by simpa using hj) (by simp; omega) hij
    · have : j = acc.length := by omega
      subst this
      rw [List.getElem?_append_right (Nat.le_refl _), Nat.sub_self] at hj
      simp at hj
      obtain ⟨rfl, rfl⟩ := hj
      rw [List.getElem?_append_left hij] at hi
      have := List.all_eq_true.1 h.1 ((x, m), i) (by
        rw [List.mem_iff_getElem?]
        exact ⟨i, by simp [List.getElem?_zipIdx, hi]⟩)
      simpa using this

section
variable {P : Program} {w0 : World} {m0 : Mem} {N : Nat} {m : Mem} {ι : List Blk} {e : Env} {s t : List O} {a : Act} {w : World} {o : Oper} {K : V → List O → Prop}
/-- The same objects, and perhaps more. -/
def ext (s t : List O) : Prop := ∀ (i : Nat) o, s[i]? = some o → ∃ o', t[i]? = some o' ∧ o'.ro = o.ro
theorem ext.refl (s : List O) : ext s s := fun i o h => ⟨o, h, rfl⟩
theorem ext.trans {a b c : List O} (h : ext a b) (k : ext b c) : ext a c := fun i o ho => by
  obtain ⟨o1, h1, e1⟩ := h i o ho
  obtain ⟨o2, h2, e2⟩ := k i o1 h1
  exact ⟨o2, h2, e2.trans e1⟩
theorem ext.agr (h : ext s t) : agr s t ∧ agr t s :=
  ⟨fun i o o' h1 h2 => by
    obtain ⟨o1, h3, e1⟩ := h i o h1
    rw [h3] at h2
    obtain rfl := Option.some.inj h2
    exact e1.symm, fun i o o' h1 h2 => by
    obtain ⟨o1, h3, e1⟩ := h i o' h2
    rw [h3] at h1
    obtain rfl := Option.some.inj h1
    exact e1⟩
theorem ext_append (s t : List O) : ext s (s ++ t) := fun i o h => ⟨o, by rw [List.getElem?_append_left (List.getElem?_eq_some_iff.1 h).1]; exact h, rfl⟩
theorem ext_mark (s : List O) (S : List Nat) : ext s (mark s S) := fun i o h => ⟨if i ∈ S then o.ro else o, by rw [mark_get, h]; rfl, by split; exact O.ro_ro o; rfl⟩
/-- What an operation does to objects, but a store. -/
theorem opK_ext (hd : drawable o.op = true) (hs : isStore o.op = false) (hq : quiet P o.op = false) (h : opK P e s o K) : opK P e s o fun v t => K v t ∧ ext s t := by
  cases ho : o.op <;> rw [ho] at hd hs hq <;> try (first | (simp [drawable] at hd; done) | (simp [quiet] at hq; done) | (simp [isStore] at hs; done))
  case alloc t =>
    simp only [opK, ho, litK_eq] at h ⊢
    split at h
    · exact ⟨h, ext_append _ _⟩
    · exact h.elim
  case box t x =>
    simp only [opK, ho, litK_eq] at h ⊢
    split at h
    · exact ⟨h, ext_append _ _⟩
    · exact h.elim
  case buildSlice t n ps =>
    simp only [opK, ho] at h ⊢
    split at h
    · split at h
      · rename_i h1 h2; (try simp only [h1, h2])
        split at h
        · rename_i h3 h4 h5 h6
          (try simp only [h3, h4, h5, h6])
          exact ⟨h, ext_mark _ _⟩
        · exact h.elim
      · exact h.elim
    · exact h.elim
  case convert t u x =>
    simp only [opK, ho] at h ⊢
    unfold convK at h ⊢
    split at h
    · rename_i h1 h2; (try simp only [h1, h2]); exact ⟨h, ext.refl _⟩
    · rename_i h1 h2; (try simp only [h1, h2]); exact ⟨h, ext.refl _⟩
    · rename_i h1 h2 h3
      (try simp only [h1, h2])
      split at h
      · rename_i h4
        (try simp only [h4])
        split at h
        · exact ⟨fun l hl => ⟨h.1 l hl, ext.refl _⟩, h.2⟩
        · split at h
          · rename_i h5
            (try simp only [h5])
            exact ⟨fun l hl => ⟨h.1 l hl, ext.refl _⟩, h.2⟩
          · exact h.elim
        · exact h.elim
      · exact h.elim
    · rename_i h1 h2
      (try simp only [h1, h2])
      split at h
      · rename_i h4 h5
        (try simp only [h4, h5])
        obtain ⟨h6, h7⟩ := h
        rw [litK_eq] at h7 ⊢
        exact ⟨h6, h7, ext_append _ _⟩
      · exact h.elim
    · exact h.elim
  case call c =>
    simp only [opK, ho] at h ⊢
    unfold callK at h ⊢
    split at h
    · rename_i b hb
      obtain ⟨cl, ar, ts⟩ := c
      simp only at hb
      subst hb
      simp [quiet] at hq
    · split at h
      · rename_i g fs cs hev
        rw [fL_eq (fV_eq 8)] at h
        obtain ⟨r, hr, hk⟩ := h
        (try simp only [hev])
        rw [fL_eq (fV_eq 8)]
        exact ⟨r, hr, fun q => ⟨hk q, ext_mark _ _⟩⟩
      · exact h.elim
    · exact h.elim

theorem St.top (h : St w0 m0 N m ι e s a w) {x : Operand} (hx : okX x = true) {i : Nat} (hi : topId (ev e x) = some i) : ∃ o', s[i]? = some o' := by
  have r := h.at hx
  generalize ev e x = v at r hi
  generalize a.eval x = y at r
  have : ∃ β, ι[i]? = some β := by
    cases v <;> simp [topId] at hi <;> subst hi <;> cases r <;> exact ⟨_, by assumption⟩
  obtain ⟨β, hβ⟩ := this
  have hl := (List.getElem?_eq_some_iff.1 hβ).1
  exact ⟨s[i]'(h.len ▸ hl), List.getElem?_eq_getElem _⟩
theorem okO_ops (hok : okO P N o = true) : ∀ x ∈ o.op.operands.toList, okX x = true := by
  unfold okO at hok
  simp only [Bool.and_eq_true] at hok
  exact List.all_eq_true.1 hok.1.2

theorem looks_mem {p : Op} {x : Operand} (h : x ∈ looks p) : x ∈ p.operands.toList := by
  unfold looks at h
  split at h <;> try simp only [List.mem_singleton, List.not_mem_nil] at h
  · subst h; simp [Op.operands]
  · subst h; simp [Op.operands]
  · subst h; simp [Op.operands]
  · subst h; simp [Op.operands]
  · simp only [Op.operands, Call.operands, Array.toList_append, List.mem_append]
    exact .inr h
/-- What an operation keeps. -/
def Kept (e : Env) (o : Oper) (s t : List O) : Prop := ∀ k, tg e o ≠ some k → ∀ x, s[k]? = some x → ∃ y, t[k]? = some y ∧ y.ro = x.ro
theorem ext.kept (h : ext s t) : Kept e o s t := fun k _ x hx => h k x hx
theorem kept_set {id : Nat} {x : O} (ht : tg e o = some id) : Kept e o s (setAt s id x) := fun k hk y hy => ⟨y, by
  rw [setAt_eq, List.getElem?_set_ne (fun q => hk (by rw [ht, q]))]
  exact hy, rfl⟩
/-- A store leaves the other objects. -/
theorem opK_store (hs : isStore o.op = true) (h : opK P e s o K) : opK P e s o fun v t => K v t ∧ Kept e o s t := by
  cases ho : o.op <;> rw [ho] at hs <;> try (simp [isStore] at hs; done)
  case store t x y =>
    simp only [opK, ho] at h ⊢
    split at h
    · rename_i id off new n hev hnew hn
      have ht : tg e o = some id := by simp only [tg, ho, hev, topId]
      split at h
      · rename_i h1; (try simp only [h1])
        split at h
        · rename_i h2 h3 h4; (try simp only [h2, h3, h4]); exact ⟨h, kept_set ht⟩
        · exact h.elim
      · exact h.elim
    · rename_i id i off new n hev hnew hn
      have ht : tg e o = some id := by simp only [tg, ho, hev, topId]
      split at h
      · rename_i h1; (try simp only [h1])
        refine ⟨h.1, fun cs hcs => ?_⟩
        have := h.2 cs hcs
        split at this
        · rename_i h2 h3 h4
          (try simp only [h2, h3, h4])
          exact ⟨this, kept_set ht⟩
        · exact this.elim
      · exact h.elim
    · exact h.elim
/-- All that is known of an operation that ran. -/
theorem opK_full (h : St w0 m0 N m ι e s a w) (hok : okO P N o = true) (hd : drawable o.op = true) (hk : opK P e s o K) :
    opK P e s o fun v t => K v t ∧ opK P e s o (fun u t' => u = v ∧ t' = t) ∧ (quiet P o.op = true → t = s) ∧ (mild o.op = true → closedO e o = true → t = s) ∧ Kept e o s t := by
  have h1 := opK_self hd hk
  cases hq : quiet P o.op with
  | true =>
    refine opK_move hq hd (fun x hx i hi => (h.top (okO_ops hok x (looks_mem hx)) hi).imp fun o' ho' => ⟨ho', fun o ho => by rw [ho] at ho'; rw [Option.some.inj ho']⟩) (fun v hv => ?_) h1
    exact ⟨hv.1, hv.2, fun _ => rfl, fun _ _ => rfl, (ext.refl s).kept⟩
  | false =>
    cases hs : isStore o.op with
    | false =>
      have h2 := opK_ext hd hs hq h1
      cases hm : mild o.op && closedO e o with
      | true =>
        rw [Bool.and_eq_true] at hm
        have h3 := opM_move (s' := s) hm.1 hm.2 h2
        have : (fun v t => K v t ∧ opK P e s o (fun u t' => u = v ∧ t' = t) ∧ (false = true → t = s) ∧ (mild o.op = true → closedO e o = true → t = s) ∧ Kept e o s t) = fun v t => t = s ∧ (K v s ∧ opK P e s o fun u t' => u = v ∧ t' = s) ∧ ext s s := by
          funext v t
          refine propext ⟨fun z => ?_, fun z => ?_⟩
          · obtain ⟨a, b, _, c, _⟩ := z
            obtain rfl := c hm.1 hm.2
            exact ⟨rfl, ⟨a, b⟩, ext.refl _⟩
          · obtain ⟨rfl, ⟨a, b⟩, _⟩ := z
            exact ⟨a, b, (fun q => by cases q), fun _ _ => rfl, (ext.refl _).kept⟩
        rw [this]
        exact h3
      | false =>
        have : (fun v t => K v t ∧ opK P e s o (fun u t' => u = v ∧ t' = t) ∧ (false = true → t = s) ∧ (mild o.op = true → closedO e o = true → t = s) ∧ Kept e o s t) = fun v t => (K v t ∧ opK P e s o fun u t' => u = v ∧ t' = t) ∧ ext s t := by
          funext v t
          have htg : ∀ k, tg e o ≠ some k := by
            intro k
            unfold tg
            cases ho : o.op <;> simp [ho, isStore] at hs ⊢
          refine propext ⟨fun z => ?_, fun z => ?_⟩
          · obtain ⟨a, b, _, _, c⟩ := z
            exact ⟨⟨a, b⟩, fun k x hx => c k (htg k) x hx⟩
          · obtain ⟨⟨a, b⟩, c⟩ := z
            exact ⟨a, b, (fun q => by cases q), (fun h1 h2 => by rw [h1, h2] at hm; cases hm), c.kept⟩
        rw [this]
        exact h2
    | true =>
      have hm : mild o.op = false := by cases ho : o.op <;> simp [ho, isStore, mild] at hs ⊢
      have h2 := opK_store hs h1
      have : (fun v t => K v t ∧ opK P e s o (fun u t' => u = v ∧ t' = t) ∧ (false = true → t = s) ∧ (mild o.op = true → closedO e o = true → t = s) ∧ Kept e o s t) = fun v t => (K v t ∧ opK P e s o fun u t' => u = v ∧ t' = t) ∧ Kept e o s t := by
        funext v t
        simp [hm, and_assoc]
      rw [this]
      exact h2
end
end Go.Proofs.Ytkkfclpodgagdaa.Ab
