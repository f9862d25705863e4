/- What the small reckoner's values speak of, kept through changes of memory. -/
import Derived.Test.YtkkfclpodgagdaaCoreB
import Derived.Laws.Sem
import Derived.Laws.World
import Derived.Laws.Cells
import Derived.Laws.AppendOwn
namespace Go.Proofs.Ytkkfclpodgagdaa.Ab
open Go.RowKit
set_option linter.unusedVariables false
set_option linter.unusedSimpArgs false

theorem Mem.le.refl (m : Mem) : m.le m := fun _ _ _ h => h
theorem Mem.le.trans {a b c : Mem} (h : a.le b) (k : b.le c) : a.le c := fun _ _ _ x => k _ _ _ (h _ _ _ x)

theorem Rep.mono {m m' : Mem} (hm : m.le m') {ι : List Blk} {v : V} {x : Value} (h : Rep m ι v x) : Rep m' ι v x := by
  induction h with
  | undef ι v => exact .undef ι v
  | int ι k n h => exact .int ι k n h
  | bool ι b => exact .bool ι b
  | str ι s h => exact .str ι s h
  | nilFn ι => exact .nilFn ι
  | nilPtr ι => exact .nilPtr ι
  | nilMap ι => exact .nilMap ι
  | nilI ι => exact .nilI ι
  | fn ι f a b va vb ha hb ra rb iha ihb => exact .fn ι f a b va vb ha hb iha ihb
  | iface ι t v x h ih => exact .iface ι t v x ih
  | ptr ι id off β h => exact .ptr ι id off β h
  | eptr ι id i off β h => exact .eptr ι id i off β h
  | elem ι cs b o g h hr ih => exact .elem ι cs b o g (fun j c hj => hm _ _ _ (h j c hj)) ih
  | row ι x els a cap sz b o g hx hc hl hs ha h hr ih => exact .row ι x els a cap sz b o g hx hc hl hs ha (fun i j e c h1 h2 => hm _ _ _ (h i j e c h1 h2)) ih
  | sl ι id off len a cap β h hl hc hn hb ha => exact .sl ι id off len a cap β h hl hc hn hb ha
  | map ι id β h => exact .map ι id β h
  | agg ι cs vs hl hr ih => exact .agg ι cs vs hl ih
  | tup ι cs vs hl hr ih => exact .tup ι cs vs hl ih

theorem Rep.ext {m : Mem} {ι : List Blk} {v : V} {x : Value} (h : Rep m ι v x) : ∀ {κ : List Blk}, (∀ (i : Nat) β, ι[i]? = some β → κ[i]? = some β) → Rep m κ v x := by
  induction h with
  | undef ι v => exact fun _ => .undef _ v
  | int ι k n h => exact fun _ => .int _ k n h
  | bool ι b => exact fun _ => .bool _ b
  | str ι s h => exact fun _ => .str _ s h
  | nilFn ι => exact fun _ => .nilFn _
  | nilPtr ι => exact fun _ => .nilPtr _
  | nilMap ι => exact fun _ => .nilMap _
  | nilI ι => exact fun _ => .nilI _
  | fn ι f a b va vb ha hb ra rb iha ihb => exact fun e => .fn _ f a b va vb ha hb (fun i x y h1 h2 => iha i x y h1 h2 e) (fun i x y h1 h2 => ihb i x y h1 h2 e)
  | iface ι t v x h ih => exact fun e => .iface _ t v x (ih e)
  | ptr ι id off β h => exact fun e => .ptr _ id off β (e _ _ h)
  | eptr ι id i off β h => exact fun e => .eptr _ id i off β (e _ _ h)
  | elem ι cs b o g h hr ih => exact fun e => .elem _ cs b o g h hr
  | row ι x els a cap sz b o g hx hc hl hs ha h hr ih => exact fun e => .row _ x els a cap sz b o g hx hc hl hs ha h hr
  | sl ι id off len a cap β h hl hc hn hb ha => exact fun e => .sl _ id off len a cap β (e _ _ h) hl hc hn hb ha
  | map ι id β h => exact fun e => .map _ id β (e _ _ h)
  | agg ι cs vs hl hr ih => exact fun e => .agg _ cs vs hl (fun i x y h1 h2 => ih i x y h1 h2 e)
  | tup ι cs vs hl hr ih => exact fun e => .tup _ cs vs hl (fun i x y h1 h2 => ih i x y h1 h2 e)

theorem Rep.closed {m : Mem} {v : V} {x : Value} (h : Rep m [] v x) (ι : List Blk) : Rep m ι v x := h.ext fun i β hi => by simp at hi

theorem at?_eq {α : Type} : ∀ (l : List α) (i : Nat), at? l i = l[i]?
  | [], i => by simp [at?]
  | a :: l, 0 => by simp [at?]
  | a :: l, i + 1 => by simp [at?, at?_eq l i]
theorem setAt_eq {α : Type} : ∀ (l : List α) (i : Nat) (x : α), setAt l i x = l.set i x
  | [], i, x => by simp [setAt]
  | a :: l, 0, x => by simp [setAt]
  | a :: l, i + 1, x => by simp [setAt, setAt_eq l i x]

theorem RepL.mono {m m' : Mem} (hm : m.le m') {ι : List Blk} {cs : List V} {vs : List Value} (h : RepL m ι cs vs) : RepL m' ι cs vs := ⟨h.1, fun i x y a b => (h.2 i x y a b).mono hm⟩
theorem RepL.nil (m : Mem) (ι : List Blk) : RepL m ι [] [] := ⟨rfl, fun i x y h => by simp at h⟩
theorem RepL.cons {m : Mem} {ι : List Blk} {c : V} {x : Value} {cs : List V} {vs : List Value} (h : Rep m ι c x) (t : RepL m ι cs vs) : RepL m ι (c :: cs) (x :: vs) :=
  ⟨by simp [t.1], fun i a b ha hb => by
    cases i with
    | zero => simp at ha hb; subst ha; subst hb; exact h
    | succ i => exact t.2 i a b (by simpa using ha) (by simpa using hb)⟩
theorem RepL.append {m : Mem} {ι : List Blk} {cs ds : List V} {vs us : List Value} (h : RepL m ι cs vs) (k : RepL m ι ds us) : RepL m ι (cs ++ ds) (vs ++ us) :=
  ⟨by simp [h.1, k.1], fun i a b ha hb => by
    rcases Nat.lt_or_ge i cs.length with hi | hi
    · rw [List.getElem?_append_left hi] at ha
      rw [List.getElem?_append_left (h.1 ▸ hi)] at hb
      exact h.2 i a b ha hb
    · rw [List.getElem?_append_right hi] at ha
      rw [List.getElem?_append_right (h.1 ▸ hi)] at hb
      exact k.2 _ a b ha (h.1 ▸ hb)⟩
theorem RepL.drop {m : Mem} {ι : List Blk} {cs : List V} {vs : List Value} (h : RepL m ι cs vs) (n : Nat) : RepL m ι (cs.drop n) (vs.drop n) :=
  ⟨by simp [h.1], fun i a b ha hb => h.2 (n + i) a b (by simpa using ha) (by simpa using hb)⟩
theorem RepL.take {m : Mem} {ι : List Blk} {cs : List V} {vs : List Value} (h : RepL m ι cs vs) (n : Nat) : RepL m ι (cs.take n) (vs.take n) :=
  ⟨by simp [h.1], fun i a b ha hb => by
    rw [List.getElem?_take] at ha hb
    split at ha
    · rename_i hi
      rw [if_pos hi] at hb
      exact h.2 i a b ha hb
    · cases ha⟩
theorem RepL.ext {m : Mem} {ι κ : List Blk} {cs : List V} {vs : List Value} (h : RepL m ι cs vs) (e : ∀ (i : Nat) β, ι[i]? = some β → κ[i]? = some β) : RepL m κ cs vs :=
  ⟨h.1, fun i a b ha hb => (h.2 i a b ha hb).ext e⟩
theorem RepL.get {m : Mem} {ι : List Blk} {cs : List V} {vs : List Value} (h : RepL m ι cs vs) {i : Nat} {c : V} (hi : cs[i]? = some c) : ∃ x, vs[i]? = some x ∧ Rep m ι c x := by
  have hl : i < cs.length := (List.getElem?_eq_some_iff.1 hi).1
  have : i < vs.length := h.1 ▸ hl
  exact ⟨vs[i], List.getElem?_eq_getElem this, h.2 i c _ hi (List.getElem?_eq_getElem this)⟩
theorem RepL.map {m : Mem} {ι : List Blk} {α : Type} (f : α → V) (g : α → Value) (l : List α) (h : ∀ a ∈ l, Rep m ι (f a) (g a)) : RepL m ι (l.map f) (l.map g) :=
  ⟨by simp, fun i a b ha hb => by
    simp only [List.getElem?_map, Option.map_eq_some_iff] at ha hb
    obtain ⟨p, hp, rfl⟩ := ha
    obtain ⟨q, hq, rfl⟩ := hb
    rw [hp] at hq
    obtain rfl := Option.some.inj hq
    exact h _ (List.mem_of_getElem? hp)⟩
theorem Rep.aggL {m : Mem} {ι : List Blk} {cs : List V} {vs : List Value} (h : RepL m ι cs vs) : Rep m ι (.agg cs) (.agg vs.toArray) := .agg ι cs vs h.1 h.2
theorem Rep.tupL {m : Mem} {ι : List Blk} {cs : List V} {vs : List Value} (h : RepL m ι cs vs) : Rep m ι (.tup cs) (.tuple vs.toArray) := .tup ι cs vs h.1 h.2
theorem Rep.agg_inv {m : Mem} {ι : List Blk} {cs : List V} {x : Value} (h : Rep m ι (.agg cs) x) : ∃ vs : List Value, x = .agg vs.toArray ∧ RepL m ι cs vs := by
  cases h with | agg _ _ vs hl hr => exact ⟨vs, rfl, hl, hr⟩
theorem Rep.tup_inv {m : Mem} {ι : List Blk} {cs : List V} {x : Value} (h : Rep m ι (.tup cs) x) : ∃ vs : List Value, x = .tuple vs.toArray ∧ RepL m ι cs vs := by
  cases h with | tup _ _ vs hl hr => exact ⟨vs, rfl, hl, hr⟩
theorem Rep.int_inv {m : Mem} {ι : List Blk} {k : IntKind} {n : Int} {x : Value} (h : Rep m ι (.int k n) x) : x = .int k n ∧ k.wrap n = n := by
  cases h with | int _ _ _ h => exact ⟨rfl, h⟩
theorem Rep.bool_inv {m : Mem} {ι : List Blk} {b : Bool} {x : Value} (h : Rep m ι (.bool b) x) : x = .bool b := by cases h; rfl
theorem Rep.str_inv {m : Mem} {ι : List Blk} {s : ByteArray} {x : Value} (h : Rep m ι (.str s) x) : x = .string s ∧ s.size ≤ 9223372036854775807 := by
  cases h with | str _ _ h => exact ⟨rfl, h⟩

/-- A value's cells. -/
theorem Rep.cells {m : Mem} {ι : List Blk} {v : V} {x : Value} (h : Rep m ι v x) {cs : List V} (hc : cellsV v = some cs) : RepL m ι cs x.cells.toList := by
  cases h <;> simp only [cellsV, Option.some.injEq, reduceCtorEq] at hc <;> subst hc
  case agg cs vs hl hr => exact ⟨by simpa [Value.cells] using hl, fun i a b ha hb => hr i a b ha (by simpa [Value.cells] using hb)⟩
  all_goals (refine RepL.cons ?_ (RepL.nil m ι); constructor <;> assumption)

theorem leaf_rep (m : Mem) (ι : List Blk) (v : Value) (h : leafOk v = true) : Rep m ι (leaf v) v := by
  unfold leaf
  split
  · exact .int ι _ _ (by simpa [leafOk] using h)
  · exact .bool ι _
  · exact .str ι _ (Nat.le_of_ble_eq_true h)
  · exact .nilFn ι
  · exact .nilPtr ι
  · exact .row ι true [] none 0 0 0 0 (fun _ _ => undef) (fun _ => rfl) (Nat.le_refl _) (by simp) (by simp) (by simp) (by simp) (by simp)
  · exact .nilMap ι
  · exact .nilI ι
  · exact .undef ι _
theorem leafL_rep (m : Mem) (ι : List Blk) (l : List Value) (h : l.all leafOk = true) : RepL m ι (l.map leaf) l :=
  ⟨by simp, fun i a b ha hb => by
    simp only [List.getElem?_map, Option.map_eq_some_iff] at ha
    obtain ⟨p, hp, rfl⟩ := ha
    rw [hp] at hb
    obtain rfl := Option.some.inj hb
    exact leaf_rep m ι p (List.all_eq_true.1 h p (List.mem_of_getElem? hp))⟩
theorem ofC_rep (m : Mem) (ι : List Blk) (v : Value) (h : cOk v = true) : Rep m ι (ofC v) v := by
  cases v with
  | agg cs => exact Rep.aggL (leafL_rep m ι cs.toList h)
  | tuple cs => exact Rep.tupL (leafL_rep m ι cs.toList h)
  | _ => simp only [ofC, cOk] at h ⊢; exact leaf_rep m ι _ h

/-- Objects and the blocks in which they lie. -/
def Ob (m : Mem) (ι : List Blk) (w : World) (β : Blk) : O → Prop
  | .gone => True
  | .box wr cs => ∃ (vs : List Value) (e : TypeId) (fr : Nat × Nat), w.heap[β.blk]? = some (.cells vs.toArray e fr) ∧ RepL m ι cs vs ∧ (∀ i, i < vs.length → ¬ (fr.1 ≤ i ∧ i < fr.2)) ∧ (wr = true → ∀ o, m β.blk o = none)
  | .arr wr sz els => ∃ (vs : List Value) (e : TypeId) (fr : Nat × Nat), sz = β.sz ∧ w.heap[β.blk]? = some (.cells vs.toArray e fr) ∧ vs.length = β.cap * sz ∧ els.length ≤ β.cap ∧ els.length = β.n ∧ els.length ≤ 9223372036854775807 ∧
      (∀ el ∈ els, el.length = sz) ∧ (∀ (i j : Nat) el c, els[i]? = some el → el[j]? = some c → ∃ x, vs[i * sz + j]? = some x ∧ Rep m [] c x) ∧
      (∀ i, i < vs.length → ¬ (fr.1 ≤ i ∧ i < fr.2)) ∧ (∀ o, els.length * sz ≤ o → m β.blk o = none) ∧ (wr = true → ∀ o, m β.blk o = none)
  | .map _ _ => False

/-- The frame's state. -/
structure St (w0 : World) (m0 : Mem) (N : Nat) (m : Mem) (ι : List Blk) (e : Env) (s : List O) (a : Act) (w : World) : Prop where
  defers : a.defers = []
  size : a.tmps.size = N
  env : ∀ t, Rep m ι (e.get t) (a.tmps.getD t undef)
  mle : m0.le m
  mok : m.ok w
  fresh : ∀ b o x, m b o = some x → m0 b o = none → w0.heap.size ≤ b
  below : Below w0.heap.size w0 w
  len : ι.length = s.length
  obj : ∀ (i : Nat) o β, s[i]? = some o → ι[i]? = some β → Ob m ι w β o
  own : ∀ (i : Nat) o β, s[i]? = some o → ι[i]? = some β → o ≠ .gone → w0.heap.size ≤ β.blk ∧ β.blk < w.heap.size
  inj : ∀ (i j : Nat) o p β γ, s[i]? = some o → s[j]? = some p → ι[i]? = some β → ι[j]? = some γ → o ≠ .gone → p ≠ .gone → i ≠ j → β.blk ≠ γ.blk

theorem Env.get_set : ∀ (e : Env) (n : Nat) (v : V) (k : Nat), (e.set n v).get k = if k = n then v else e.get k
  | [], n, v, k => by
    simp only [Env.set, Env.get]
    cases h : Nat.beq n k
    · have : k ≠ n := fun q => by subst q; simp at h
      rw [if_neg this]
    · have := Nat.eq_of_beq_eq_true h
      rw [if_pos this.symm]
  | (j, u) :: e, n, v, k => by
    simp only [Env.set, Env.get]
    cases h : Nat.beq j n
    · simp only [Env.get]
      cases h2 : Nat.beq j k
      · exact Env.get_set e n v k
      · have := Nat.eq_of_beq_eq_true h2
        subst this
        have : j ≠ n := fun q => by subst q; simp at h
        simp only [if_neg this]
    · have := Nat.eq_of_beq_eq_true h
      subst this
      simp only [Env.get]
      cases h2 : Nat.beq j k
      · have : k ≠ j := fun q => by subst q; simp at h2
        simp only [if_neg this]
      · have := Nat.eq_of_beq_eq_true h2
        simp only [if_pos this.symm]
section
variable {w0 : World} {m0 : Mem} {N : Nat} {m : Mem} {ι : List Blk} {e : Env} {s : List O} {a : Act} {w : World}
theorem St.set (h : St w0 m0 N m ι e s a w) {d : Nat} (hd : d < N) {v : V} {x : Value} (r : Rep m ι v x) : St w0 m0 N m ι (e.set d v) s { a with tmps := a.tmps.setIfInBounds d x } w :=
  { h with
    size := by simpa using h.size
    env := fun t => by
      rw [Env.get_set]
      by_cases q : t = d
      · subst q
        rw [if_pos rfl]
        have : (a.tmps.setIfInBounds t x).getD t undef = x := by simp [Array.getD, h.size, hd]
        rw [this]
        exact r
      · rw [if_neg q]
        have : (a.tmps.setIfInBounds d x).getD t undef = a.tmps.getD t undef := by
          simp only [Array.getD_eq_getD_getElem?]
          rw [Array.getElem?_setIfInBounds_ne (fun z => q z.symm)]
        rw [this]
        exact h.env t }
theorem St.put (h : St w0 m0 N m ι e s a w) {d : Option Tmp} (hd : ∀ t, d = some t → t < N) {v : V} {x : Value} (r : Rep m ι v x) : St w0 m0 N m ι (e.put d v) s (a.put d x) w := by
  cases d with
  | none => exact h
  | some t => exact h.set (hd t rfl) r
/-- What stands in a slot may be told in other words. -/
theorem St.say (h : St w0 m0 N m ι e s a w) {t : Nat} {v : V} (r : Rep m ι v (a.tmps.getD t undef)) : St w0 m0 N m ι (e.set t v) s a w :=
  { h with
    env := fun k => by
      rw [Env.get_set]
      by_cases q : k = t
      · subst q
        rw [if_pos rfl]
        exact r
      · rw [if_neg q]
        exact h.env k }
theorem St.evs (h : St w0 m0 N m ι e s a w) {x : Operand} (hx : ∀ v, x = .const v → cOk v = true) : Rep m ι (Ab.ev e x) (a.eval x) := by
  cases x with
  | tmp t => exact h.env t
  | const v => exact ofC_rep m ι v (hx v rfl)
  | global g => exact .undef ι _
  | func f =>
    exact Rep.fn ι f [] [] [] [] rfl rfl (by simp) (by simp)
end
end Go.Proofs.Ytkkfclpodgagdaa.Ab
