/- Stores, draws, and objects in a new order. -/
import Derived.Test.YtkkfclpodgagdaaCoreD
namespace Go.Proofs.Ytkkfclpodgagdaa.Ab
open Go.RowKit
set_option linter.unusedVariables false
set_option linter.unusedSimpArgs false

/-- One block anew. -/
def wset (w : World) (b : Nat) (o : Obj) : World := { w with heap := w.heap.setIfInBounds b o }
theorem wset_heap (w : World) (b : Nat) (o : Obj) (k : Nat) : (wset w b o).heap[k]? = if k = b then (if b < w.heap.size then some o else none) else w.heap[k]? := by
  simp only [wset, Array.getElem?_setIfInBounds]
  by_cases q : b = k
  · subst q; simp
  · rw [if_neg q, if_neg (fun z => q z.symm)]
theorem wset_size (w : World) (b : Nat) (o : Obj) : (wset w b o).heap.size = w.heap.size := by simp [wset]
theorem wset_wset (w : World) (b : Nat) (o p : Obj) : wset (wset w b o) b p = wset w b p := by
  unfold wset
  congr 1
  apply Array.ext_getElem?
  intro k
  simp only [Array.getElem?_setIfInBounds, Array.size_setIfInBounds]
  split <;> rfl
theorem setCell_wset {w : World} {b o : Nat} {vs : List Value} {e : TypeId} {fr : Nat × Nat} (h : w.heap[b]? = some (.cells vs.toArray e fr)) (v : Value) :
    w.setCell ⟨b, o, none⟩ v = wset w b (.cells (vs.set o v).toArray e fr) := by
  have hb : b < w.heap.size := (Array.getElem?_eq_some_iff.1 h).1
  unfold World.setCell wset
  congr 1
  apply Array.ext_getElem?
  intro k
  simp only [Array.getElem?_modify, Array.getElem?_setIfInBounds]
  by_cases q : b = k
  · subst q
    rw [if_pos rfl, if_pos rfl, if_pos hb, h]
    simp [Array.setIfInBounds, List.setIfInBounds_toArray]
    exact fun hge => (List.set_eq_of_length_le hge).symm
  · rw [if_neg q, if_neg q]
theorem frozen_cells {w : World} {b o : Nat} {vs : List Value} {e : TypeId} {fr : Nat × Nat} (h : w.heap[b]? = some (.cells vs.toArray e fr)) (hf : ¬ (fr.1 ≤ o ∧ o < fr.2)) : w.frozen? ⟨b, o, none⟩ = false := by
  obtain ⟨lo, hi⟩ := fr
  simp only [World.frozen?, h, Bool.and_eq_false_iff, decide_eq_false_iff_not]
  simp only at hf
  omega
theorem addr_add (b o n : Nat) : (⟨b, o, none⟩ : Addr).add n = ⟨b, o + n, none⟩ := by
  unfold Addr.add
  split
  · rename_i h; subst h; rfl
  · rfl
theorem run_stores {P : Program} {b o : Nat} {e : TypeId} {fr : Nat × Nat} : ∀ (new : List Value) (i : Nat) (vs : List Value) (w : World), w.heap[b]? = some (.cells vs.toArray e fr) → o + i + new.length ≤ vs.length →
    (∀ k, k < vs.length → ¬ (fr.1 ≤ k ∧ k < fr.2)) → (∀ v ∈ new, v.oneCell' = true) →
    (storeCells ⟨b, o, none⟩ new i).run P w = .ok () (wset w b (.cells (vs.take (o + i) ++ new ++ vs.drop (o + i + new.length)).toArray e fr))
  | [], i, vs, w, h, hl, hf, ho => by
    have hb : b < w.heap.size := (Array.getElem?_eq_some_iff.1 h).1
    simp only [storeCells, List.append_nil, List.length_nil, Nat.add_zero, List.take_append_drop, Sem.run_pure]
    congr 1
    have e2 : w.heap.setIfInBounds b (.cells vs.toArray e fr) = w.heap := by
      apply Array.ext_getElem?
      intro k
      simp only [Array.getElem?_setIfInBounds]
      by_cases q : b = k
      · subst q; rw [if_pos rfl, if_pos hb, h]
      · rw [if_neg q]
    unfold wset
    rw [e2]
  | v :: new, i, vs, w, h, hl, hf, ho => by
    have hb : b < w.heap.size := (Array.getElem?_eq_some_iff.1 h).1
    simp only [List.length_cons] at hl
    have hi : o + i < vs.length := by omega
    have hc : w.cell? ⟨b, o + i, none⟩ = some vs[o + i] := by rw [cell_heap h, List.getElem?_eq_getElem hi]
    have hz := frozen_cells (o := o + i) h (hf _ hi)
    have h' : (wset w b (.cells (vs.set (o + i) v).toArray e fr)).heap[b]? = some (.cells (vs.set (o + i) v).toArray e fr) := by rw [wset_heap, if_pos rfl, if_pos hb]
    have ih := run_stores (P := P) (o := o) (fr := fr) new (i + 1) (vs.set (o + i) v) _ h' (by simp; omega) (fun k hk => hf k (by simpa using hk)) (fun u hu => ho u (List.mem_cons_of_mem _ hu))
    have e1 : (vs.set (o + i) v).take (o + (i + 1)) ++ new ++ (vs.set (o + i) v).drop (o + (i + 1) + new.length) = vs.take (o + i) ++ v :: new ++ vs.drop (o + i + (new.length + 1)) := by
      have e3 : (vs.set (o + i) v).take (o + (i + 1)) = vs.take (o + i) ++ [v] := by
        rw [show o + (i + 1) = o + i + 1 by omega, List.take_succ_eq_append_getElem (by simpa using hi), List.getElem_set_self, List.take_set, List.set_eq_of_length_le (by rw [List.length_take]; omega)]
      rw [e3, List.drop_set_of_lt (show o + i < o + (i + 1) + new.length by omega), show o + (i + 1) + new.length = o + i + (new.length + 1) by omega]
      simp only [List.append_assoc, List.singleton_append, List.cons_append, List.nil_append]
    rw [e1, wset_wset] at ih
    simp only [storeCells, Sem.run_bind, addr_add, run_store P w _ v _ (ho v List.mem_cons_self), hc, hz, Bool.false_eq_true, if_false, Result.andThen_ok, setCell_wset h]
    exact ih

section
variable {w0 : World} {m0 : Mem} {N : Nat} {m : Mem} {ι : List Blk} {e : Env} {s : List O} {a : Act} {w : World}

/-- A draw. -/
theorem St.drew (h : St w0 m0 N m ι e s a w) (n : Nat) : St w0 m0 N m ι e s a { w with drawn := n } :=
  h.grow (Mem.le.refl m) h.mok ⟨rfl, rfl, rfl, Nat.le_refl _, fun _ _ => rfl⟩ (fun b o x hx hn => by rw [hx] at hn; cases hn)

theorem leafV_one {m : Mem} {ι : List Blk} {v : V} {x : Value} (h : Rep m ι v x) (hv : leafV v = true) : x.oneCell' = true := by
  cases h <;> first | rfl | (simp [leafV] at hv)

theorem RepL.splice {m : Mem} {ι : List Blk} {cs new : List V} {vs us : List Value} (h : RepL m ι cs vs) (k : RepL m ι new us) (off : Nat) :
    RepL m ι (Ab.splice cs off new) (vs.take off ++ us ++ vs.drop (off + us.length)) := by
  unfold Ab.splice
  rw [← k.1]
  exact ((h.take off).append k).append (h.drop _)

/-- An object written: its block alone is another one. -/
theorem St.write (h : St w0 m0 N m ι e s a w) {id : Nat} {o o' : O} {β : Blk} (ho : s[id]? = some o) (hβ : ι[id]? = some β) (hg : o ≠ .gone) (hg' : o' ≠ .gone) (hm : ∀ k, m β.blk k = none) {x : Obj}
    (ob : Ob m ι (wset w β.blk x) β o') : St w0 m0 N m ι e (s.set id o') a (wset w β.blk x) :=
  have hid : id < s.length := (List.getElem?_eq_some_iff.1 ho).1
  have own := h.own id o β ho hβ hg
  have set_ : ∀ {i : Nat} {p : O}, (s.set id o')[i]? = some p → (i = id ∧ p = o') ∨ (i ≠ id ∧ s[i]? = some p) := by
    intro i p hp
    rw [List.getElem?_set] at hp
    by_cases q : id = i
    · subst q
      simp [hid] at hp
      exact .inl ⟨rfl, hp.symm⟩
    · rw [if_neg q] at hp
      exact .inr ⟨fun z => q z.symm, hp⟩
  { defers := h.defers
    size := h.size
    env := h.env
    mle := h.mle
    mok := fun b k v hv => by
      have hne : b ≠ β.blk := fun q => by subst q; rw [hm k] at hv; cases hv
      rw [World.cell?_of_block (w := w) (a := ⟨b, k, none⟩) (by show (wset w β.blk x).heap[b]? = _; rw [wset_heap, if_neg hne])]
      exact h.mok b k v hv
    fresh := h.fresh
    below := h.below.trans ⟨rfl, rfl, rfl, by rw [wset_size]; exact Nat.le_refl _, fun k hk => by rw [wset_heap, if_neg (by omega)]⟩
    len := by simp [h.len]
    obj := fun i p γ hp hγ => by
      rcases set_ hp with ⟨rfl, rfl⟩ | ⟨hne, hp⟩
      · rw [hβ] at hγ
        obtain rfl := Option.some.inj hγ
        exact ob
      · have := h.obj i p γ hp hγ
        cases p with
        | gone => exact trivial
        | box wr cs =>
          obtain ⟨vs, et, fr, h1, h2, h3, h4⟩ := this
          exact ⟨vs, et, fr, by rw [wset_heap, if_neg (h.inj i id _ o γ β hp ho hγ hβ (by simp) hg hne)]; exact h1, h2, h3, h4⟩
        | arr wr sz els =>
          obtain ⟨vs, et, fr, rfl, h1, h2, h3, h4, h5, h6, h7, h8, h9, h10⟩ := this
          exact ⟨vs, et, fr, rfl, by rw [wset_heap, if_neg (h.inj i id _ o γ β hp ho hγ hβ (by simp) hg hne)]; exact h1, h2, h3, h4, h5, h6, h7, h8, h9, h10⟩
        | map wr es => exact this.elim
    own := fun i p γ hp hγ hgp => by
      rw [wset_size]
      rcases set_ hp with ⟨rfl, rfl⟩ | ⟨hne, hp⟩
      · rw [hβ] at hγ
        obtain rfl := Option.some.inj hγ
        exact own
      · exact h.own i p γ hp hγ hgp
    inj := fun i j p q γ δ hp hq hγ hδ hgp hgq hne => by
      rcases set_ hp with ⟨q1, q2⟩ | ⟨hni, hp2⟩ <;> rcases set_ hq with ⟨q3, q4⟩ | ⟨hnj, hq2⟩
      · exact absurd (q1.trans q3.symm) hne
      · subst q1; exact h.inj _ j o q γ δ ho hq2 hγ hδ hg hgq hne
      · subst q3; exact h.inj i _ p o γ δ hp2 ho hγ hδ hgp hg hne
      · exact h.inj i j p q γ δ hp2 hq2 hγ hδ hgp hgq hne }

/-- An object is given up. -/
theorem St.lose (h : St w0 m0 N m ι e s a w) (id : Nat) : St w0 m0 N m ι e (s.set id .gone) a w :=
  have set_ : ∀ {i : Nat} {p : O}, (s.set id .gone)[i]? = some p → p = .gone ∨ s[i]? = some p := by
    intro i p hp
    rw [List.getElem?_set] at hp
    split at hp
    · split at hp
      · exact .inl (Option.some.inj hp).symm
      · cases hp
    · exact .inr hp
  { h with
    len := by simp [h.len]
    obj := fun i p γ hp hγ => by
      rcases set_ hp with rfl | hp
      · exact trivial
      · exact h.obj i p γ hp hγ
    own := fun i p γ hp hγ hg => by
      rcases set_ hp with rfl | hp
      · exact absurd rfl hg
      · exact h.own i p γ hp hγ hg
    inj := fun i j p q γ δ hp hq hγ hδ hgp hgq hne => by
      rcases set_ hp with rfl | hp
      · exact absurd rfl hgp
      · rcases set_ hq with rfl | hq
        · exact absurd rfl hgq
        · exact h.inj i j p q γ δ hp hq hγ hδ hgp hgq hne }

theorem pos?_get : ∀ (g : List Nat) (i j : Nat), pos? g i = some j → g[j]? = some i
  | [], _, _, h => by simp [pos?] at h
  | a :: g, i, j, h => by
    simp only [pos?] at h
    cases q : Nat.beq a i
    · simp only [q, Option.map_eq_some_iff] at h
      obtain ⟨k, hk, rfl⟩ := h
      simpa using pos?_get g i k hk
    · simp only [q, Option.some.injEq] at h
      subst h
      simpa using Nat.eq_of_beq_eq_true q
theorem pos?_none : ∀ (g : List Nat) (i : Nat), pos? g i = none → i ∉ g
  | [], _, _ => by simp
  | a :: g, i, h => by
    simp only [pos?] at h
    cases q : Nat.beq a i
    · simp only [q, Option.map_eq_none_iff] at h
      have : a ≠ i := fun z => by subst z; simp at q
      simp only [List.mem_cons, not_or]
      exact ⟨fun z => this z.symm, pos?_none g i h⟩
    · simp [q] at h
theorem nd_inj : ∀ (g : List Nat), nd g = true → ∀ (i j : Nat) x, g[i]? = some x → g[j]? = some x → i = j
  | [], _, i, j, x, h, _ => by simp at h
  | a :: g, h, i, j, x, hi, hj => by
    simp only [nd, Bool.and_eq_true] at h
    have hn : a ∉ g := by
      cases q : pos? g a with
      | none => exact pos?_none g a q
      | some k => simp [q] at h
    cases i with
    | zero =>
      cases j with
      | zero => rfl
      | succ j => simp at hi hj; subst hi; exact absurd (List.mem_of_getElem? hj) hn
    | succ i =>
      cases j with
      | zero => simp at hi hj; subst hj; exact absurd (List.mem_of_getElem? hi) hn
      | succ j => rw [nd_inj g h.2 i j x (by simpa using hi) (by simpa using hj)]

theorem Rep.renamed {m : Mem} {ι κ : List Blk} {g : List Nat} (hk : ∀ (j i : Nat) β, g[j]? = some i → ι[i]? = some β → κ[j]? = some β) :
    ∀ (n : Nat) (v : V) (x : Value), Rep m ι v x → Rep m κ (ren n g v) x
  | 0, _, x, _ => .undef _ _
  | n + 1, v, x, hr => by
    have ih := Rep.renamed (m := m) hk n
    cases hr with
    | undef => exact .undef _ _
    | int _ k z hz => exact .int _ k z hz
    | bool _ b => exact .bool _ b
    | str _ b hb => exact .str _ b hb
    | nilFn => exact .nilFn _
    | nilPtr => exact .nilPtr _
    | nilMap => exact .nilMap _
    | nilI => exact .nilI _
    | fn _ f p q vp vq hp hq rp rq =>
      refine .fn _ f _ _ vp vq (by simp [hp]) (by simp [hq]) ?_ ?_
      · intro i c y hc hy
        simp only [List.getElem?_map, Option.map_eq_some_iff] at hc
        obtain ⟨c', hc', rfl⟩ := hc
        exact ih c' y (rp i c' y hc' hy)
      · intro i c y hc hy
        simp only [List.getElem?_map, Option.map_eq_some_iff] at hc
        obtain ⟨c', hc', rfl⟩ := hc
        exact ih c' y (rq i c' y hc' hy)
    | iface _ t v x hv => exact .iface _ t _ x (ih v x hv)
    | ptr _ id off β hβ =>
      simp only [ren]
      split
      · rename_i j hj
        exact .ptr _ j off β (hk j id β (pos?_get g id j hj) hβ)
      · exact .undef _ _
    | eptr _ id i off β hβ =>
      simp only [ren]
      split
      · rename_i j hj
        exact .eptr _ j i off β (hk j id β (pos?_get g id j hj) hβ)
      · exact .undef _ _
    | elem _ cs b o gg hm hc => exact .elem _ cs b o gg hm hc
    | row _ x els p cap sz b o gg hx hc hl hs ha hm hr => exact .row _ x els p cap sz b o gg hx hc hl hs ha hm hr
    | sl _ id off len p cap β hβ hl hc hn hb ha =>
      simp only [ren]
      split
      · rename_i j hj
        exact .sl _ j off len p cap β (hk j id β (pos?_get g id j hj) hβ) hl hc hn hb ha
      · exact .undef _ _
    | map _ id β hβ =>
      simp only [ren]
      split
      · rename_i j hj
        exact .map _ j β (hk j id β (pos?_get g id j hj) hβ)
      · exact .undef _ _
    | agg _ cs vs hl hr =>
      refine Rep.aggL ⟨by simp [hl], fun i c y hc hy => ?_⟩
      simp only [List.getElem?_map, Option.map_eq_some_iff] at hc
      obtain ⟨c', hc', rfl⟩ := hc
      exact ih c' y (hr i c' y hc' hy)
    | tup _ cs vs hl hr =>
      refine Rep.tupL ⟨by simp [hl], fun i c y hc hy => ?_⟩
      simp only [List.getElem?_map, Option.map_eq_some_iff] at hc
      obtain ⟨c', hc', rfl⟩ := hc
      exact ih c' y (hr i c' y hc' hy)

theorem Env.get_list (f : Nat → V) : ∀ (ks : List Nat) (t : Nat), Env.get (ks.map fun n => (n, f n)) t = f t ∨ Env.get (ks.map fun n => (n, f n)) t = .undef
  | [], t => .inr rfl
  | k :: ks, t => by
    simp only [List.map_cons, Env.get]
    cases q : Nat.beq k t
    · exact Env.get_list f ks t
    · rw [Nat.eq_of_beq_eq_true q]
      exact .inl rfl

/-- Objects in a new order; what is not kept is forgotten. -/
theorem St.select (h : St w0 m0 N m ι e s a w) (ks g : List Nat) (hg : nd g = true) :
    St w0 m0 N m (g.map fun i => (ι[i]?).getD ⟨0, 0, 0, 0⟩) (ks.map fun n => (n, ren 8 g (e.get n))) (selO s g) a w :=
  have hk : ∀ (j i : Nat) β, g[j]? = some i → ι[i]? = some β → (g.map fun i => (ι[i]?).getD ⟨0, 0, 0, 0⟩)[j]? = some β := by
    intro j i β hj hi
    simp [hj, hi]
  have sel : ∀ {j : Nat} {p : O} {γ : Blk}, (selO s g)[j]? = some p → (g.map fun i => (ι[i]?).getD ⟨0, 0, 0, 0⟩)[j]? = some γ → p = .gone ∨ ∃ i o, g[j]? = some i ∧ s[i]? = some o ∧ ι[i]? = some γ ∧ p = o.ren g := by
    intro j p γ hp hγ
    simp only [selO, List.getElem?_map, Option.map_eq_some_iff] at hp hγ
    obtain ⟨i, hi, rfl⟩ := hp
    obtain ⟨i', hi', rfl⟩ := hγ
    rw [hi] at hi'
    obtain rfl := Option.some.inj hi'
    rw [at?_eq]
    cases q : s[i]? with
    | none => exact .inl rfl
    | some o =>
      have hlt : i < ι.length := h.len ▸ (List.getElem?_eq_some_iff.1 q).1
      exact .inr ⟨i, o, hi, q, by simp [List.getElem?_eq_getElem hlt], rfl⟩
  { defers := h.defers
    size := h.size
    env := fun t => by
      rcases Env.get_list (fun n => ren 8 g (e.get n)) ks t with q | q
      · rw [q]; exact Rep.renamed hk 8 _ _ (h.env t)
      · rw [q]; exact .undef _ _
    mle := h.mle
    mok := h.mok
    fresh := h.fresh
    below := h.below
    len := by simp [selO]
    obj := fun j p γ hp hγ => by
      rcases sel hp hγ with rfl | ⟨i, o, hi, ho, hι, rfl⟩
      · exact trivial
      · have := h.obj i o γ ho hι
        cases o with
        | gone => exact trivial
        | box wr cs =>
          obtain ⟨vs, et, fr, h1, h2, h3, h4⟩ := this
          refine ⟨vs, et, fr, h1, ⟨by simp [h2.1], fun k c y hc hy => ?_⟩, h3, h4⟩
          simp only [List.getElem?_map, Option.map_eq_some_iff] at hc
          obtain ⟨c', hc', rfl⟩ := hc
          exact Rep.renamed hk 8 _ _ (h2.2 k c' y hc' hy)
        | arr wr sz els => exact this
        | map wr es => exact this.elim
    own := fun j p γ hp hγ hgp => by
      rcases sel hp hγ with rfl | ⟨i, o, hi, ho, hι, rfl⟩
      · exact absurd rfl hgp
      · exact h.own i o γ ho hι (fun z => hgp (by subst z; rfl))
    inj := fun j j' p q γ δ hp hq hγ hδ hgp hgq hne => by
      rcases sel hp hγ with rfl | ⟨i, o, hi, ho, hι, rfl⟩
      · exact absurd rfl hgp
      · rcases sel hq hδ with rfl | ⟨i', o', hi', ho', hι', rfl⟩
        · exact absurd rfl hgq
        · exact h.inj i i' o o' γ δ ho ho' hι hι' (fun z => hgp (by subst z; rfl)) (fun z => hgq (by subst z; rfl)) (fun z => by subst z; exact hne (nd_inj g hg j j' i hi hi')) }
theorem St.keep (h : St w0 m0 N m ι e s a w) (ks : List Nat) : St w0 m0 N m ι (ks.map fun n => (n, e.get n)) s a w :=
  { h with
    env := fun t => by
      rcases Env.get_list (fun n => e.get n) ks t with q | q
      · rw [q]; exact h.env t
      · rw [q]; exact .undef _ _ }
end
end Go.Proofs.Ytkkfclpodgagdaa.Ab
