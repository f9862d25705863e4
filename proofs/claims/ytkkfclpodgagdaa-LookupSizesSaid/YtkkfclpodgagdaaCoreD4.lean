/- Regions that draw their order. -/
import Derived.Test.YtkkfclpodgagdaaCoreD3
namespace Go.Proofs.Ytkkfclpodgagdaa.Ab
open Go.RowKit
set_option linter.unusedVariables false
set_option linter.unusedSimpArgs false
set_option linter.unusedSectionVars false

/-- Whether an operation runs, by its guard. -/
def gd (ops : Array Oper) (o : Oper) (e : Env) (rn : Bool) : Prop :=
  match o.guard with
  | none => rn = true
  | some (j, want) => ∃ t, (ops[j]?).bind (·.dst) = some t ∧ ((∃ b, e.get t = .bool b ∧ rn = (b == want)) ∨ (e.get t = .tup [] ∧ rn = false))
structure Stp (P : Program) (ops : Array Oper) (o : Oper) (e : Env) (s : List O) (rn : Bool) (v : V) (e' : Env) (s' : List O) : Prop where
  get : ∀ t, e'.get t = if o.dst = some t then v else e.get t
  guard : gd ops o e rn
  quiet : quiet P o.op = true → s' = s
  mild : mild o.op = true → closedO e o = true → s' = s
  kept : Kept e o s s'
  run : rn = true → opK P e s o fun u t => u = v ∧ t = s'
  skip : rn = false → v = .tup [] ∧ s' = s

theorem Env.get_put (e : Env) (d : Option Tmp) (v : V) (t : Nat) : (e.put d v).get t = if d = some t then v else e.get t := by
  cases d with
  | none => simp [Env.put]
  | some x =>
    simp only [Env.put, Env.get_set]
    by_cases q : t = x
    · subst q; simp
    · rw [if_neg q, if_neg (fun h => q (Option.some.inj h).symm)]
theorem Env.get_say {e : Env} {t : Nat} {b : Bool} (h : e.get t = .bool b) (k : Nat) : (e.set t (.bool b)).get k = e.get k := by
  rw [Env.get_set]
  split
  · rename_i q; rw [q, h]
  · rfl

section
variable {P : Program} {w0 : World} {m0 : Mem} {N : Nat} {m : Mem} {ι : List Blk} {e : Env} {s : List O} {a : Act} {w : World} {o : Oper}
theorem Goes.some {R : Value → World → Prop} (h : Goes P o a w R) : ∃ x w', R x w' := by
  unfold Goes at h
  split at h
  · exact ⟨_, _, h⟩
  · exact ⟨_, _, h⟩
  · obtain ⟨_, _, _, ⟨v, _, hr⟩, _⟩ := h []
    exact ⟨_, _, hr⟩
  · exact h.elim
theorem ev_say {e : Env} {t : Nat} {b : Bool} (h : e.get t = .bool b) (x : Operand) : ev (e.set t (.bool b)) x = ev e x := by
  cases x <;> simp only [ev]
  exact Env.get_say h _
theorem closedO_ev {e e' : Env} (h : ∀ x, ev e x = ev e' x) : closedO e o = closedO e' o := by
  unfold closedO
  congr 1
  funext x
  rw [h]
theorem tg_ev {e e' : Env} (h : ∀ x, ev e x = ev e' x) : tg e o = tg e' o := by
  unfold tg
  split
  · rw [h]
  · rfl
/-- The text's own order, step by step. -/
def Tr (P : Program) (ops : Array Oper) (K : Env → List O → Prop) (os : List Oper) (e : Env) (s : List O) : Prop :=
  ∃ (E : Nat → Env) (S : Nat → List O) (rn : Nat → Bool) (vs : Nat → V), E 0 = e ∧ S 0 = s ∧ K (E os.length) (S os.length) ∧ ∀ i o, os[i]? = some o → Stp P ops o (E i) (S i) (rn i) (vs i) (E (i + 1)) (S (i + 1))
theorem trace {ops : Array Oper} {K : Env → List O → Prop} : ∀ (os : List Oper), (∀ o ∈ os, okO P N o = true ∧ drawable o.op = true) → ∀ (e : Env) (s : List O), (∃ m ι a w, St w0 m0 N m ι e s a w) → opsK P ops os K e s → Tr P ops K os e s
  | [], _, e, s, _, hk => ⟨fun _ => e, fun _ => s, fun _ => true, fun _ => .undef, rfl, rfl, hk, fun i o h => by simp at h⟩
  | o :: os, hall, e, s, hst, hk => by
    obtain ⟨hok, hd⟩ := hall o List.mem_cons_self
    have ih := trace (ops := ops) (K := K) os (fun x hx => hall x (List.mem_cons_of_mem _ hx))
    have fin : ∀ (r : Bool) (v : V) (e' : Env) (s' : List O), (∃ m ι a w, St w0 m0 N m ι e' s' a w) → opsK P ops os K e' s' → Stp P ops o e s r v e' s' →  Tr P ops K (o :: os) e s := by
      intro r v e' s' hst' hk' hs
      obtain ⟨E, S, rn, vs, hE, hS, hK, hall⟩ := ih e' s' hst' hk'
      refine ⟨fun i => match i with | 0 => e | i + 1 => E i, fun i => match i with | 0 => s | i + 1 => S i, fun i => match i with | 0 => r | i + 1 => rn i, fun i => match i with | 0 => v | i + 1 => vs i, rfl, rfl, hK, fun i p hp => ?_⟩
      cases i with
      | zero =>
        simp at hp
        subst hp
        show Stp P ops o e s r v (E 0) (S 0)
        rw [hE, hS]
        exact hs
      | succ i => exact hall i p (by simpa using hp)
    have go : ∀ {e1 : Env}, (∃ m ι a w, St w0 m0 N m ι e1 s a w) → (∀ k, e1.get k = e.get k) → (∀ x, ev e1 x = ev e x) → gd ops o e true → (opK P e1 s o fun v s' => fV 4 v fun v => fL fO s' fun s' => putK e1 o.dst v fun e => opsK P ops os K e s') → Tr P ops K (o :: os) e s := by
      intro e1 hst hg he hgd hk
      have : (fun v s' => fV 4 v fun v => fL fO s' fun s' => putK e1 o.dst v fun e => opsK P ops os K e s') = fun v s' => opsK P ops os K (e1.put o.dst v) s' := by
        funext v s'
        rw [fV_eq, fL_eq fO_eq, putK_eq]
      rw [this] at hk
      obtain ⟨m, ι, a, w, h⟩ := hst
      obtain ⟨x, w', v, s', m', ι', ⟨hk2, hself, hquiet, hmild, hkept⟩, rv, h2⟩ := (opK_sound h hok (opK_full h hok hd hk)).some
      refine fin true v _ s' ⟨m', ι', _, w', h2.put (okO_dst hok) rv⟩ hk2 ⟨fun t => ?_, hgd, hquiet, fun hm hc => hmild hm (by rw [closedO_ev he]; exact hc), fun k hk => hkept k (by rw [tg_ev he]; exact hk), fun _ => ?_, fun q => (by cases q)⟩
      · rw [Env.get_put, hg]
      · rwa [opK_env (fun x _ => he x) hd] at hself
    have no : ∀ {e1 : Env}, (∃ m ι a w, St w0 m0 N m ι e1 s a w) → (∀ k, e1.get k = e.get k) → gd ops o e false → (putK e1 o.dst (.tup []) fun e => opsK P ops os K e s) → Tr P ops K (o :: os) e s := by
      intro e1 hst hg hgd hk
      rw [putK_eq] at hk
      obtain ⟨m, ι, a, w, h⟩ := hst
      refine fin false (.tup []) _ s ⟨m, ι, _, w, h.put (okO_dst hok) (Rep.tupL (vs := []) (RepL.nil m ι))⟩ hk ⟨fun t => ?_, hgd, fun _ => rfl, fun _ _ => rfl, (ext.refl s).kept, fun q => (by cases q), fun _ => ⟨rfl, rfl⟩⟩
      rw [Env.get_put, hg]
    rw [opsK_cons] at hk
    unfold opsC at hk
    split at hk
    · rename_i hg
      exact go hst (fun _ => rfl) (fun _ => rfl) (by simp [gd, hg]) hk
    · rename_i j want hg
      split at hk
      · rename_i t ht
        split at hk
        · rename_i b hb
          have hst1 : ∃ m ι a w, St w0 m0 N m ι (e.set t (.bool b)) s a w := by
            obtain ⟨m, ι, a, w, h⟩ := hst
            exact ⟨m, ι, a, w, h.say (hb ▸ h.env t)⟩
          have hgd : gd ops o e (b == want) := by
            simp only [gd, hg]
            exact ⟨t, ht, .inl ⟨b, hb, rfl⟩⟩
          cases want <;> cases b <;> simp only [csplit, setK_eq] at hk
          · exact go hst1 (Env.get_say hb) (ev_say hb) hgd hk
          · exact no hst1 (Env.get_say hb) hgd hk
          · exact no hst1 (Env.get_say hb) hgd hk
          · exact go hst1 (Env.get_say hb) (ev_say hb) hgd hk
        · rename_i hb
          exact no hst (fun _ => rfl) (by simp only [gd, hg]; exact ⟨t, ht, .inr ⟨hb, trivial⟩⟩) hk
        · exact hk.elim
      · exact hk.elim

/-- What has run, and what stands then. -/
structure Inv (P : Program) (ops : Array Oper) (C ms : List Nat) (E : Nat → Env) (S : Nat → List O) (D : Nat → Prop) (e : Env) (s : List O) : Prop where
  clo : ∀ i k mk, ms[i]? = some mk → mk.testBit k = true → D i → D k
  env : ∀ t, ∃ p, p ≤ ops.size ∧ (∀ j o, ops[j]? = some o → o.dst = some t → (D j ↔ j < p)) ∧ e.get t = (E p).get t
  obj : ∃ q, q ≤ ops.size ∧ (∀ j o, ops[j]? = some o → quietC P C j o = false → (D j ↔ j < q)) ∧ s = S q
/-- One stores to what the other does not look at. -/
def Apt (P : Program) (E : Nat → Env) (i : Nat) (x : Oper) (j : Nat) (y : Oper) : Prop :=
  isStore x.op = true ∧ quiet P y.op = true ∧ ∀ z ∈ looks y.op, ∀ k, topId (ev (E j) z) = some k → tg (E i) x ≠ some k
/-- The text's own order, and what is known of it. -/
structure Txt (P : Program) (ops : Array Oper) (C ms : List Nat) (E : Nat → Env) (S : Nat → List O) (rn : Nat → Bool) (vs : Nat → V) : Prop where
  stp : ∀ i o, ops[i]? = some o → Stp P ops o (E i) (S i) (rn i) (vs i) (E (i + 1)) (S (i + 1))
  cl : ∀ i o, ops[i]? = some o → C.any (Nat.beq i) = true → mild o.op = true ∧ closedO (E i) o = true
  on : ∀ i o, ops[i]? = some o → ∀ x ∈ o.after.toList, Region.binds .any x = true → x.on < i
  msk : ∀ (i : Nat) (o : Oper), ops[i]? = some o → ∃ mk : Nat, ms[i]? = some mk ∧ ∀ k, mk.testBit k = true → ∃ x ∈ o.after.toList, Region.binds .any x = true ∧ (k = x.on ∨ ∃ mx, ms[x.on]? = some mx ∧ mx.testBit k = true)
  bd : ∀ (i j : Nat) (x y : Oper) (mk : Nat), ops[i]? = some x → ops[j]? = some y → ms[j]? = some mk → i < j → mk.testBit i = true ∨ (boundS ops x y = false ∧ (boundO P C i x j y = false ∨ Apt P E i x j y ∨ Apt P E j y i x))

section
variable {ops : Array Oper} {C ms : List Nat} {E : Nat → Env} {S : Nat → List O} {rn : Nat → Bool} {vs : Nat → V} (hs : Txt P ops C ms E S rn vs) {D : Nat → Prop} {i : Nat}
include hs
theorem Txt.same {i : Nat} {o : Oper} (h : ops[i]? = some o) (hq : quietC P C i o = true) : S (i + 1) = S i := by
  unfold quietC at hq
  rw [Bool.or_eq_true] at hq
  rcases hq with q | q
  · exact (hs.stp i o h).quiet q
  · exact (hs.stp i o h).mild (hs.cl i o h q).1 (hs.cl i o h q).2
theorem Txt.loud {i : Nat} {o : Oper} (h : ops[i]? = some o) (hq : isStore o.op = true) : quietC P C i o = false := by
  unfold quietC
  cases q : C.any (Nat.beq i)
  · cases ho : o.op <;> simp [ho, isStore] at hq
    rfl
  · have := (hs.cl i o h q).1
    cases ho : o.op <;> simp [ho, isStore, mild] at hq this
theorem Txt.get_between {t : Nat} {lo : Nat} :
    ∀ (d : Nat), lo + d ≤ ops.size → (∀ j o, ops[j]? = some o → lo ≤ j → j < lo + d → o.dst ≠ some t) → (E (lo + d)).get t = (E lo).get t
  | 0, _, _ => rfl
  | d + 1, hd, hw => by
    have hlt : lo + d < ops.size := by omega
    have ho := Array.getElem?_eq_getElem hlt
    rw [← Nat.add_assoc, (hs.stp _ _ ho).get t, if_neg (hw _ _ ho (by omega) (by omega))]
    exact Txt.get_between d (by omega) fun j o hj h1 h2 => hw j o hj h1 (by omega)
theorem Txt.kept_between {lo k : Nat} :
    ∀ (d : Nat), lo + d ≤ ops.size → (∀ j o, ops[j]? = some o → lo ≤ j → j < lo + d → tg (E j) o ≠ some k) → ∀ x, (S lo)[k]? = some x → ∃ y, (S (lo + d))[k]? = some y ∧ y.ro = x.ro
  | 0, _, _, x, hx => ⟨x, hx, rfl⟩
  | d + 1, hd, hw, x, hx => by
    have hlt : lo + d < ops.size := by omega
    have ho := Array.getElem?_eq_getElem hlt
    obtain ⟨y, hy, h1⟩ := Txt.kept_between d (by omega) (fun j o hj h1 h2 => hw j o hj h1 (by omega)) x hx
    obtain ⟨z, hz, h2⟩ := (hs.stp _ _ ho).kept k (hw _ _ ho (by omega) (by omega)) y hy
    exact ⟨z, hz, h2.trans h1⟩
theorem Txt.same_between {lo : Nat} :
    ∀ (d : Nat), lo + d ≤ ops.size → (∀ j o, ops[j]? = some o → lo ≤ j → j < lo + d → quietC P C j o = true) → S (lo + d) = S lo
  | 0, _, _ => rfl
  | d + 1, hd, hw => by
    have hlt : lo + d < ops.size := by omega
    have ho := Array.getElem?_eq_getElem hlt
    rw [← Nat.add_assoc, hs.same ho (hw _ _ ho (by omega) (by omega))]
    exact Txt.same_between d (by omega) fun j o hj h1 h2 => hw j o hj h1 (by omega)
end

theorem hasDst_iff {o : Oper} {l : List Tmp} {t : Tmp} (h : o.dst = some t) (ht : t ∈ l) : hasDst o l = true := by
  unfold hasDst
  rw [h]
  exact List.any_eq_true.2 ⟨t, ht, by simp⟩
theorem tg_store {e : Env} {o : Oper} {k : Nat} (h : tg e o = some k) : isStore o.op = true := by
  unfold tg at h
  split at h
  · rename_i ho; rw [ho]; rfl
  · cases h

/-- What holds of an operation that may be next. -/
structure Nxt (P : Program) (ops : Array Oper) (C : List Nat) (E : Nat → Env) (D : Nat → Prop) (i : Nat) (o : Oper) : Prop where
  not : ¬ D i
  here : ops[i]? = some o
  preS : ∀ j x, ops[j]? = some x → j < i → boundS ops x o = true → D j
  postS : ∀ j x, ops[j]? = some x → i < j → boundS ops o x = true → ¬ D j
  preO : ∀ j x, ops[j]? = some x → j < i → boundO P C j x i o = true → D j ∨ Apt P E j x i o ∨ Apt P E i o j x
  postO : ∀ j x, ops[j]? = some x → i < j → boundO P C i o j x = true → ¬ D j ∨ Apt P E j x i o ∨ Apt P E i o j x

section
variable {ops : Array Oper} {C ms : List Nat} {E : Nat → Env} {S : Nat → List O} {rn : Nat → Bool} {vs : Nat → V} (hs : Txt P ops C ms E S rn vs) {D : Nat → Prop} {i : Nat}
include hs
theorem Inv.get_at (hi : Inv P ops C ms E S D e s) (hn : Nxt P ops C E D i o) {t : Nat} (ht : t ∈ nms ops o) : e.get t = (E i).get t ∧ ∀ j x, ops[j]? = some x → x.dst = some t → j ≠ i → (D j ↔ j < i) := by
  have hw : ∀ j x, ops[j]? = some x → x.dst = some t → j ≠ i → (D j ↔ j < i) := by
    intro j x hj hx hne
    have hd := hasDst_iff hx ht
    rcases Nat.lt_or_gt_of_ne hne with q | q
    · exact ⟨fun _ => q, fun _ => hn.preS j x hj q (by simp [boundS, hd])⟩
    · exact ⟨fun h => (hn.postS j x hj q (by simp [boundS, hd]) h).elim, fun h => by omega⟩
  refine ⟨?_, hw⟩
  obtain ⟨p, hp, hD, he⟩ := hi.env t
  have hin := (Array.getElem?_eq_some_iff.1 hn.here).1
  rw [he]
  rcases Nat.le_total p i with q | q
  · obtain ⟨d, rfl⟩ := Nat.le.dest q
    refine (hs.get_between d (by omega) fun j x hj h1 h2 hx => ?_).symm
    have := (hw j x hj hx (by omega)).2 h2
    have := (hD j x hj hx).1 this
    omega
  · obtain ⟨d, rfl⟩ := Nat.le.dest q
    refine hs.get_between d (by omega) fun j x hj h1 h2 hx => ?_
    have h3 := (hD j x hj hx).2 h2
    by_cases hne : j = i
    · subst hne; exact hn.not h3
    · have := (hw j x hj hx hne).1 h3
      omega
/-- Loud operations come in the text's order. -/
theorem Nxt.order (hn : Nxt P ops C E D i o) (hq : quietC P C i o = false) : ∀ j x, ops[j]? = some x → quietC P C j x = false → (D j ↔ j < i) := by
  intro j x hj hx
  have hno : ∀ {a b : Nat} {u v : Oper}, quietC P C b v = false → ¬ Apt P E a u b v := fun h ⟨_, h2, _⟩ => by simp [quietC, h2] at h
  rcases Nat.lt_trichotomy j i with h | h | h
  · rcases hn.preO j x hj h (by simp [boundO, hq, hx]) with z | z | z
    · exact ⟨fun _ => h, fun _ => z⟩
    · exact (hno hq z).elim
    · exact (hno hx z).elim
  · subst h
    exact ⟨fun z => (hn.not z).elim, fun z => by omega⟩
  · rcases hn.postO j x hj h (by simp [boundO, hq, hx]) with z | z | z
    · exact ⟨fun y => (z y).elim, fun y => by omega⟩
    · exact (hno hq z).elim
    · exact (hno hx z).elim
/-- At a loud operation, the objects are the text's. -/
theorem Inv.at_loud (hi : Inv P ops C ms E S D e s) (hn : Nxt P ops C E D i o) (hqu : quietC P C i o = false) : s = S i := by
  have hin := (Array.getElem?_eq_some_iff.1 hn.here).1
  obtain ⟨q, hq, hD, hsq⟩ := hi.obj
  have hord := Nxt.order hs hn hqu
  rw [hsq]
  rcases Nat.le_total q i with z | z
  · obtain ⟨d, rfl⟩ := Nat.le.dest z
    refine (hs.same_between d (by omega) fun j x hj h1 h2 => ?_).symm
    cases hx : quietC P C j x
    · have := (hD j x hj hx).1 ((hord j x hj hx).2 h2)
      omega
    · rfl
  · obtain ⟨d, rfl⟩ := Nat.le.dest z
    refine hs.same_between d (by omega) fun j x hj h1 h2 => ?_
    cases hx : quietC P C j x
    · have := (hord j x hj hx).1 ((hD j x hj hx).2 h2)
      omega
    · rfl
theorem Inv.step {D' : Nat → Prop} (hi : Inv P ops C ms E S D e s) (hn : Nxt P ops C E D i o) (hms : ∀ mk k, ms[i]? = some mk → mk.testBit k = true → D k) (hD' : ∀ j, D' j ↔ (j = i ∨ D j)) {s' : List O} (hs' : quietC P C i o = true → s' = s) (hs2 : quietC P C i o = false → s' = S (i + 1)) :
    Inv P ops C ms E S D' (e.put o.dst (vs i)) s' := by
  have hin := (Array.getElem?_eq_some_iff.1 hn.here).1
  refine ⟨fun j k mk hj hk hd => ?_, fun t => ?_, ?_⟩
  · rcases (hD' j).1 hd with rfl | hd
    · exact (hD' k).2 (.inr (hms mk k hj hk))
    · exact (hD' k).2 (.inr (hi.clo j k mk hj hk hd))
  · rw [Env.get_put]
    by_cases hd : o.dst = some t
    · have hw := (hi.get_at hs hn (t := t) (by simp [nms, hd])).2
      refine ⟨i + 1, hin, fun j x hj hx => ?_, ?_⟩
      · rw [hD']
        by_cases q : j = i
        · subst q; simp
        · rw [or_iff_right q, hw j x hj hx q]
          omega
      · rw [if_pos hd, (hs.stp i o hn.here).get t, if_pos hd]
    · obtain ⟨p, hp, hD, he⟩ := hi.env t
      refine ⟨p, hp, fun j x hj hx => ?_, by rw [if_neg hd, he]⟩
      have hne : j ≠ i := by
        rintro rfl
        rw [hn.here] at hj
        obtain rfl := Option.some.inj hj
        exact hd hx
      rw [hD']
      have := hD j x hj hx
      simp [hne, this]
  · obtain ⟨q, hq, hD, hsq⟩ := hi.obj
    cases hqu : quietC P C i o with
    | true =>
      refine ⟨q, hq, fun j x hj hx => ?_, by rw [hs' hqu, hsq]⟩
      have hne : j ≠ i := by
        rintro rfl
        rw [hn.here] at hj
        obtain rfl := Option.some.inj hj
        rw [hqu] at hx
        cases hx
      rw [hD']
      have := hD j x hj hx
      simp [hne, this]
    | false =>
      refine ⟨i + 1, hin, fun j x hj hx => ?_, hs2 hqu⟩
      rw [hD', Nxt.order hs hn hqu j x hj hx]
      omega

/-- An operation that may be next gives what it gives in the text's order. -/
theorem Inv.run (h : St w0 m0 N m ι e s a w) (hok : okO P N o = true) (hdr : drawable o.op = true) (hi : Inv P ops C ms E S D e s) (hn : Nxt P ops C E D i o) (hr : rn i = true) :
    opK P e s o fun v t => v = vs i ∧ (quietC P C i o = true → t = s) ∧ (quietC P C i o = false → t = S (i + 1)) := by
  have hin := (Array.getElem?_eq_some_iff.1 hn.here).1
  have hst := hs.stp i o hn.here
  have hev : ∀ x ∈ o.op.operands.toList, ev e x = ev (E i) x := by
    intro x hx
    cases x with
    | tmp t => exact (hi.get_at hs hn (t := t) (by
        simp only [nms, List.mem_append, List.mem_filterMap]
        exact .inl (.inr ⟨_, hx, rfl⟩))).1
    | const v => rfl
    | global g => rfl
    | func f => rfl
  have h0 := hst.run hr
  rw [← opK_env hev hdr] at h0
  obtain ⟨q, hq, hD, hsq⟩ := hi.obj
  cases hqu : quietC P C i o with
  | true =>
    cases hqs : quiet P o.op with
    | true =>
      refine opK_move hqs hdr (fun z hz k hk => ?_) (fun v hv => ?_) h0
      · obtain ⟨o', ho'⟩ := h.top (okO_ops hok z (looks_mem hz)) hk
        have hne : (looks o.op).isEmpty = false := by cases hl : looks o.op with | nil => rw [hl] at hz; cases hz | cons _ _ => rfl
        refine ⟨o', ho', fun ob hob => ?_⟩
        rw [hev z (looks_mem hz)] at hk
        rw [hsq] at ho'
        rcases Nat.le_total q i with zq | zq
        · obtain ⟨d, rfl⟩ := Nat.le.dest zq
          obtain ⟨y, hy, hro⟩ := hs.kept_between d (by omega) (fun j x hj h1 h2 htg => by
            have hx := tg_store htg
            have hnD : ¬ D j := fun z => by
              have := (hD j x hj (hs.loud hj hx)).1 z
              omega
            rcases hn.preO j x hj h2 (by simp [boundO, hx, hne]) with z2 | z2 | z2
            · exact hnD z2
            · exact z2.2.2 z hz k hk htg
            · have := hs.loud hj hx
              simp [quietC, z2.2.1] at this) o' ho'
          rw [hob] at hy
          rw [Option.some.inj hy]
          exact hro
        · obtain ⟨d, rfl⟩ := Nat.le.dest zq
          obtain ⟨y, hy, hro⟩ := hs.kept_between d (by omega) (fun j x hj h1 h2 htg => by
            have hx := tg_store htg
            have hDj : D j := (hD j x hj (hs.loud hj hx)).2 h2
            have hji : i < j := by
              rcases Nat.lt_or_ge i j with h4 | h4
              · exact h4
              · have : j = i := by omega
                subst this
                exact (hn.not hDj).elim
            rcases hn.postO j x hj hji (by simp [boundO, hx, hne]) with z2 | z2 | z2
            · exact z2 hDj
            · exact z2.2.2 z hz k hk htg
            · have := hs.loud hj hx
              simp [quietC, z2.2.1] at this) ob hob
          rw [ho'] at hy
          rw [Option.some.inj hy]
          exact hro.symm
      · exact ⟨hv.1, fun _ => rfl, fun z => by cases z⟩
    | false =>
      have hC : C.any (Nat.beq i) = true := by simpa [quietC, hqs] using hqu
      obtain ⟨hm, hc⟩ := hs.cl i o hn.here hC
      have hc' : closedO e o = true := by
        refine List.all_eq_true.2 fun x hx => ?_
        rw [hev x hx]
        exact List.all_eq_true.1 hc x hx
      have h1 := opM_move (s' := s) hm hc' h0
      have : (fun v t => v = vs i ∧ (true = true → t = s) ∧ (true = false → t = S (i + 1))) = fun v t => t = s ∧ v = vs i ∧ S i = S (i + 1) := by
        funext v t
        have := hst.mild hm hc
        simp [this, and_comm]
      rw [this]
      exact h1
  | false =>
    have hsame := hi.at_loud hs hn hqu
    have : (fun v t => v = vs i ∧ (false = true → t = s) ∧ (false = false → t = S (i + 1))) = fun v t => v = vs i ∧ t = S (i + 1) := by
      funext v t
      simp
    rw [this, hsame]
    exact h0
end

theorem St.env_eq {e' : Env} (h : St w0 m0 N m ι e s a w) (he : ∀ t, e.get t = e'.get t) : St w0 m0 N m ι e' s a w := { h with env := fun t => by rw [← he t]; exact h.env t }

theorem draw_main {ops : Array Oper} {C ms : List Nat} {E : Nat → Env} {S : Nat → List O} {rn : Nat → Bool} {vs : Nat → V} (hs : Txt P ops C ms E S rn vs)
    (hall : ∀ o ∈ ops.toList, okO P N o = true ∧ drawable o.op = true)
    {Q : Exit → Act → World → Prop} (hQ : ∀ m ι a w, St w0 m0 N m ι (E ops.size) (S ops.size) a w → Q .normal a w) :
    ∀ (fuel : Nat) (U : List Nat) (L : Array Bool) (e : Env) (s : List O) (m : Mem) (ι : List Blk) (a : Act) (w : World), L.size = ops.size → U.length ≤ fuel → (∀ j, j < ops.size → L.getD j true = false → j ∈ U) → 
      St w0 m0 N m ι e s a w → Inv P ops C ms E S (fun j => L.getD j true = true) e s → wpAny P .any ops Q fuel L a w := by
  have done : ∀ (L : Array Bool) (e : Env) (s : List O) (m : Mem) (ι : List Blk) (a : Act) (w : World), L.size = ops.size → St w0 m0 N m ι e s a w → Inv P ops C ms E S (fun j => L.getD j true = true) e s → (∀ j, j < ops.size → L.getD j true = true) → Q .normal a w := by
    intro L e s m ι a w hL h hi hd
    obtain ⟨q, hq, hD, hsq⟩ := hi.obj
    have hsS : s = S ops.size := by
      rw [hsq]
      obtain ⟨d, hd2⟩ := Nat.le.dest hq
      rw [← hd2]
      refine (hs.same_between d (by omega) fun j x hj h1 h2 => ?_).symm
      cases hx : quietC P C j x
      · have := (hD j x hj hx).1 (hd j (by omega))
        omega
      · rfl
    subst hsS
    refine hQ m ι a w (h.env_eq fun t => ?_)
    obtain ⟨p, hp, hD, he⟩ := hi.env t
    rw [he]
    obtain ⟨d, hd2⟩ := Nat.le.dest hp
    rw [← hd2]
    refine (hs.get_between d (by omega) fun j x hj h1 h2 hx => ?_).symm
    have := (hD j x hj hx).1 (hd j (by omega))
    omega
  have least : ∀ (L : Array Bool), L.size = ops.size → Region.ready .any ops L = [] → ∀ j, j < ops.size → L.getD j true = true := by
    intro L hL hr j
    induction j using Nat.strongRecOn with
    | _ j ih =>
      intro hj
      cases hLj : L.getD j true
      · have ho := Array.getElem?_eq_getElem hj
        have : j ∈ Region.ready .any ops L := by
          rw [mem_ready]
          refine ⟨hLj, _, ho, fun x hx hbx => ?_⟩
          have hlt := hs.on j _ ho x (by simpa using hx) hbx
          have := ih x.on hlt (by omega)
          have hsz : x.on < L.size := by omega
          simpa [hsz] using this
        rw [hr] at this
        cases this
      · rfl
  intro fuel
  induction fuel with
  | zero =>
    intro U L e s m ι a w hL hU hcov h hi
    have hU0 : U = [] := List.eq_nil_of_length_eq_zero (by omega)
    subst hU0
    have hall : ∀ j, j < ops.size → L.getD j true = true := fun j hj => by
      cases q : L.getD j true
      · exact absurd (hcov j hj q) (by simp)
      · rfl
    refine ⟨?_, done L e s m ι a w hL h hi hall⟩
    rw [List.eq_nil_iff_forall_not_mem]
    intro j hj
    rw [mem_ready] at hj
    obtain ⟨h0, o, ho, _⟩ := hj
    rw [hall j (Array.getElem?_eq_some_iff.1 ho).1] at h0
    cases h0
  | succ fuel ih =>
    intro U L e s m ι a w hL hU hcov h hi
    refine ⟨fun hr => done L e s m ι a w hL h hi (least L hL hr), fun i hir => ?_⟩
    rw [mem_ready] at hir
    obtain ⟨hLi, o, ho, hpre⟩ := hir
    have hin := (Array.getElem?_eq_some_iff.1 ho).1
    obtain ⟨hok, hdr⟩ := hall o (by rw [Array.mem_toList_iff]; exact Array.mem_of_getElem? ho)
    have hD : ∀ k, k < ops.size → L.getD k false = true → L.getD k true = true := fun k hk hq => by
      have : k < L.size := by omega
      simpa [this] using hq
    have hbit : ∀ mk k, ms[i]? = some mk → mk.testBit k = true → L.getD k true = true := by
      intro mk k hmk hk
      obtain ⟨mk', h1, h2⟩ := hs.msk i o ho
      rw [hmk] at h1
      obtain rfl := Option.some.inj h1
      obtain ⟨x, hx, hbx, h3⟩ := h2 k hk
      have hxi := hs.on i o ho x hx hbx
      have hxd := hD x.on (by omega) (hpre x (by simpa using hx) hbx)
      rcases h3 with rfl | ⟨mx, h4, h5⟩
      · exact hxd
      · exact hi.clo x.on k mx h4 h5 hxd
    have hbit2 : ∀ j mk, ms[j]? = some mk → mk.testBit i = true → ¬ (L.getD j true = true) := by
      intro j mk hmk hk hdj
      have := hi.clo j i mk hmk hk hdj
      simp only [hLi] at this
      cases this
    have hn : Nxt P ops C E (fun j => L.getD j true = true) i o := by
      refine ⟨by simp only [hLi]; decide, ho, fun j x hj hji hbd => ?_, fun j x hj hji hbd => ?_, fun j x hj hji hbd => ?_, fun j x hj hji hbd => ?_⟩
      · obtain ⟨mk, h1, _⟩ := hs.msk i o ho
        rcases hs.bd j i x o mk hj ho h1 hji with z | z
        · exact hbit mk j h1 z
        · rw [z.1] at hbd; cases hbd
      · obtain ⟨mk, h1, _⟩ := hs.msk j x hj
        rcases hs.bd i j o x mk ho hj h1 hji with z | z
        · exact hbit2 j mk h1 z
        · rw [z.1] at hbd; cases hbd
      · obtain ⟨mk, h1, _⟩ := hs.msk i o ho
        rcases hs.bd j i x o mk hj ho h1 hji with z | ⟨_, z | z⟩
        · exact .inl (hbit mk j h1 z)
        · rw [z] at hbd; cases hbd
        · exact .inr z
      · obtain ⟨mk, h1, _⟩ := hs.msk j x hj
        rcases hs.bd i j o x mk ho hj h1 hji with z | ⟨_, z | z⟩
        · exact .inl (hbit2 j mk h1 z)
        · rw [z] at hbd; cases hbd
        · exact .inr z.symm
    have hD' : ∀ j, (L.setIfInBounds i true).getD j true = true ↔ (j = i ∨ L.getD j true = true) := by
      intro j
      by_cases q : j = i
      · subst q
        have : j < L.size := by omega
        simp [this]
      · rw [getD_set_ne true (fun z => q z.symm)]
        simp [q]
    have go : ∀ {e' : Env} {s' : List O} {m' : Mem} {ι' : List Blk} {a' : Act} {w' : World}, St w0 m0 N m' ι' e' s' a' w' → Inv P ops C ms E S (fun j => (L.setIfInBounds i true).getD j true = true) e' s' → wpAny P .any ops Q fuel (L.setIfInBounds i true) a' w' := by
      intro e' s' m' ι' a' w' h' hi'
      have hiU := hcov i hin hLi
      refine ih (U.erase i) _ e' s' m' ι' a' w' (by simpa using hL) (by rw [List.length_erase_of_mem hiU]; omega) (fun j hj hf => ?_) h' hi'
      have hne : j ≠ i := by
        rintro rfl
        have := (hD' j).2 (.inl rfl)
        rw [this] at hf
        cases hf
      rw [getD_set_ne true (fun z => hne z.symm)] at hf
      exact (List.mem_erase_of_ne hne).2 (hcov j hj hf)
    unfold wpOp
    simp only [ho]
    have hst := hs.stp i o ho
    have hgd := hst.guard
    have hwant : Region.wanted o (yielded ops a.tmps) = rn i := by
      unfold gd at hgd
      split at hgd
      · rename_i hg
        rw [hgd]
        simp [Region.wanted, hg]
      · rename_i j want hg
        obtain ⟨t, ht, hc⟩ := hgd
        have he := (hi.get_at hs hn (t := t) (by simp [nms, hg, ht])).1
        rcases hc with ⟨b, hb1, hb2⟩ | ⟨hb1, hb2⟩
        · rw [hb2]; exact wanted_bool h hg ht (he.trans hb1)
        · rw [hb2]; exact wanted_skip h hg ht (he.trans hb1)
    rw [hwant]
    cases hr : rn i with
    | true =>
      rw [if_pos rfl]
      refine .inl (Goes.wp ((opK_sound h hok (hi.run hs h hok hdr hn hr)).mono ?_))
      rintro x w' ⟨v, s', m', ι', ⟨hv, hq1, hq2⟩, rv, h2⟩
      subst hv
      exact go (h2.put (okO_dst hok) rv) (hi.step hs hn hbit hD' hq1 hq2)
    | false =>
      rw [if_neg (by simp)]
      obtain ⟨hv, hss⟩ := hst.skip hr
      have h2 := h.put (okO_dst hok) (d := o.dst) (v := .tup []) (x := undef) (Rep.tupL (vs := []) (RepL.nil m ι))
      rw [← hv] at h2
      refine go h2 (hi.step hs hn hbit hD' (fun _ => rfl) fun hqu => ?_)
      rw [hss]
      exact hi.at_loud hs hn hqu

/-- A region that draws its order. -/
theorem draw_sound {ops : Array Oper} {C : List Nat} {L : List (Nat × Nat)} (hall : ∀ o ∈ ops.toList, okO P N o = true) (hd : drawOk P ops C L = true) {K : Env → List O → Prop} {Q : Exit → Act → World → Prop} (hQ : ∀ e s m ι a w, St w0 m0 N m ι e s a w → K e s → Q .normal a w)
    (h : St w0 m0 N m ι e s a w) (hk : opsK P ops ops.toList (fun e s => drawDue ops C L e = true ∧ K e s) e s) : wpAny P .any ops Q ops.size (Array.replicate ops.size false) a { w with drawn := w.drawn + 1 } := by
  unfold drawOk at hd
  simp only [Bool.and_eq_true] at hd
  obtain ⟨⟨⟨⟨hd1, hd2⟩, hd3⟩, hd4⟩, hd5⟩ := hd
  have hall2 : ∀ o ∈ ops.toList, okO P N o = true ∧ drawable o.op = true := fun o ho => ⟨hall o ho, List.all_eq_true.1 hd1 o ho⟩
  obtain ⟨E, S, rn, vs, hE, hS, ⟨hdue, hK⟩, hs⟩ := trace ops.toList hall2 e s ⟨m, ι, a, w, h⟩ hk
  rw [Array.length_toList] at hK hdue
  have hs' : ∀ i o, ops[i]? = some o → Stp P ops o (E i) (S i) (rn i) (vs i) (E (i + 1)) (S (i + 1)) := fun i o ho => hs i o (by simpa using ho)
  have hon : ∀ i o, ops[i]? = some o → ∀ x ∈ o.after.toList, Region.binds .any x = true → x.on < i := by
    intro i o ho x hx hbx
    have := List.all_eq_true.1 hd2 (o, i) (by
      rw [List.mem_iff_getElem?]
      exact ⟨i, by simp [List.getElem?_zipIdx, ho]⟩)
    have := List.all_eq_true.1 this x hx
    simp only [hbx, Bool.not_true, Bool.false_or] at this
    exact Nat.lt_of_lt_of_le (Nat.lt_succ_self _) (Nat.le_of_ble_eq_true this)
  -- a slot that is not written from here on is at the end what it is here
  have hlast : ∀ i o, ops[i]? = some o → lastOk ops i o = true → ∀ x ∈ o.op.operands.toList, ev (E ops.size) x = ev (E i) x := by
    intro i o ho hl x hx
    have := List.all_eq_true.1 hl x hx
    cases x with
    | tmp t =>
      simp only at this
      have hin := (Array.getElem?_eq_some_iff.1 ho).1
      have key : ∀ d, i + d ≤ ops.size → (E (i + d)).get t = (E i).get t := by
        intro d
        induction d with
        | zero => intro _; rfl
        | succ d ih =>
          intro hd
          have hlt : i + d < ops.size := by omega
          have ho2 := Array.getElem?_eq_getElem hlt
          rw [← Nat.add_assoc, (hs' _ _ ho2).get t, if_neg, ih (by omega)]
          intro hdst
          have := List.all_eq_true.1 this (ops[i + d]) (by
            rw [List.mem_iff_getElem?]
            exact ⟨d, by simp [List.getElem?_drop, ho2]⟩)
          rw [hdst] at this
          simp at this
      have := key (ops.size - i) (by omega)
      rw [show i + (ops.size - i) = ops.size by omega] at this
      exact this
    | const v => rfl
    | global g => rfl
    | func f => rfl
  unfold drawDue at hdue
  simp only [Bool.and_eq_true] at hdue
  have hcl : ∀ i o, ops[i]? = some o → C.any (Nat.beq i) = true → mild o.op = true ∧ closedO (E i) o = true := by
    intro i o ho hC
    obtain ⟨j, hj, hij⟩ := List.any_eq_true.1 hC
    obtain rfl := Nat.eq_of_beq_eq_true hij
    have ho' : at? ops.toList i = some o := by rw [at?_eq]; simpa using ho
    have h1 := List.all_eq_true.1 hd4 i hj
    have h2 := List.all_eq_true.1 hdue.1 i hj
    rw [ho'] at h1 h2
    simp only [Bool.and_eq_true] at h1
    refine ⟨h1.1, List.all_eq_true.2 fun x hx => ?_⟩
    rw [← hlast i o ho h1.2 x hx]
    exact List.all_eq_true.1 h2 x hx
  obtain ⟨l, h1, h2, h3⟩ := msks_get ops.toList []
  rw [List.nil_append] at h1
  have hms : ∀ (i : Nat) (o : Oper), ops[i]? = some o → ∃ mk : Nat, l[i]? = some mk ∧ ∀ k, mk.testBit k = true → ∃ x ∈ o.after.toList, Region.binds .any x = true ∧ (k = x.on ∨ ∃ mx, l[x.on]? = some mx ∧ mx.testBit k = true) := by
    intro i o ho
    have h4 := h3 i o (by simpa using ho)
    refine ⟨_, h4, fun k hk => ?_⟩
    obtain ⟨x, hx, hbx, hor⟩ := msk_bits hk
    refine ⟨x, hx, hbx, hor.imp id fun hbit => ?_⟩
    have hxi := hon i o ho x hx hbx
    rw [List.nil_append, at?_eq, List.getElem?_take, if_pos hxi] at hbit
    cases hlx : l[x.on]? with
    | none => rw [hlx] at hbit; simp at hbit
    | some mx => rw [hlx] at hbit; exact ⟨mx, rfl, by simpa using hbit⟩
  have hapt : ∀ (i j : Nat) (x y : Oper), ops[i]? = some x → ops[j]? = some y → lastOk ops i x = true → lastOk ops j y = true → isStore x.op = true → quiet P y.op = true → apartB (E ops.size) x y = true → Apt P E i x j y := by
    intro i j x y hi hj hli hlj hx hy hap
    refine ⟨hx, hy, fun z hz k hk htg => ?_⟩
    have htg' : tg (E ops.size) x = some k := by
      unfold tg at htg ⊢
      split at htg
      · rename_i _ a _ hox
        rw [hlast i x hi hli a (by rw [hox]; simp [Op.operands])]
        exact htg
      · cases htg
    unfold apartB at hap
    rw [htg'] at hap
    have := List.all_eq_true.1 hap z hz
    rw [hlast j y hj hlj z (looks_mem hz), hk] at this
    simp at this
  have hb : ∀ (i j : Nat) (x y : Oper) (mk : Nat), ops[i]? = some x → ops[j]? = some y → l[j]? = some mk → i < j → mk.testBit i = true ∨ (boundS ops x y = false ∧ (boundO P C i x j y = false ∨ Apt P E i x j y ∨ Apt P E j y i x)) := by
    intro i j x y mk hi hj hmk hij
    rw [h1] at hd3
    have hli : i < l.length := by
      rw [h2]
      have := (Array.getElem?_eq_some_iff.1 hi).1
      simpa using this
    rcases pairsOk_get _ [] hd3 i j x (l[i]) y mk (by
      simp only [List.nil_append, List.getElem?_zip_eq_some]
      exact ⟨by simpa using hi, List.getElem?_eq_getElem hli⟩) (by
      simp only [List.nil_append, List.getElem?_zip_eq_some]
      exact ⟨by simpa using hj, hmk⟩) (Nat.zero_le _) hij with z | ⟨z1, z2 | z2⟩
    · exact .inl z
    · exact .inr ⟨z1, .inl z2⟩
    · unfold exempt at z2
      simp only [Bool.and_eq_true, Bool.or_eq_true] at z2
      obtain ⟨z3, z4⟩ := z2
      obtain ⟨p, hp, hpe⟩ := List.any_eq_true.1 z3
      simp only [Bool.and_eq_true] at hpe
      obtain ⟨a', b'⟩ := p
      obtain ⟨hp1, hp2⟩ := hpe
      obtain rfl := Nat.eq_of_beq_eq_true hp1
      obtain rfl := Nat.eq_of_beq_eq_true hp2
      have hi' : at? ops.toList i = some x := by rw [at?_eq]; simpa using hi
      have hj' : at? ops.toList j = some y := by rw [at?_eq]; simpa using hj
      have h5 := List.all_eq_true.1 hd5 _ hp
      have h6 := List.all_eq_true.1 hdue.2 _ hp
      simp only [hi', hj', Bool.and_eq_true] at h5 h6
      rcases z4 with z4 | z4
      · exact .inr ⟨z1, .inr (.inl (hapt i j x y hi hj h5.1 h5.2 z4.1 z4.2 h6.1))⟩
      · exact .inr ⟨z1, .inr (.inr (hapt j i y x hj hi h5.2 h5.1 z4.2 z4.1 h6.2))⟩
  refine draw_main ⟨hs', hcl, hon, hms, hb⟩ hall2 (fun m ι a w h => hQ _ _ m ι a w h hK) ops.size (List.range ops.size) _ e s m ι a _ (by simp) (by simp) (fun j hj _ => List.mem_range.2 hj) (h.drew _) ?_
  have hno : ∀ j, j < ops.size → ¬ ((Array.replicate ops.size false).getD j true = true) := by
    intro j hj
    simp [hj]
  refine ⟨fun i k mk hi hk hdi => ?_, fun t => ⟨0, Nat.zero_le _, fun j o hj _ => ⟨fun z => (hno j (Array.getElem?_eq_some_iff.1 hj).1 z).elim, fun z => by omega⟩, by rw [hE]⟩, ⟨0, Nat.zero_le _, fun j o hj _ => ⟨fun z => (hno j (Array.getElem?_eq_some_iff.1 hj).1 z).elim, fun z => by omega⟩, hS.symm⟩⟩
  have hil := (List.getElem?_eq_some_iff.1 hi).1
  rw [h2, Array.length_toList] at hil
  exact (hno i hil hdi).elim
end
end Go.Proofs.Ytkkfclpodgagdaa.Ab
