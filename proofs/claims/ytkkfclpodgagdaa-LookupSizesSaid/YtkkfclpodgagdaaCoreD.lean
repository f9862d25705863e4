/- Changes of the frame's state: what leaves it is frozen, objects are made, written, put in a new order. -/
import Derived.Test.YtkkfclpodgagdaaCoreC
namespace Go.Proofs.Ytkkfclpodgagdaa.Ab
open Go.RowKit
set_option linter.unusedVariables false
set_option linter.unusedSimpArgs false

/-- How far an object's cells are told. -/
def O.lim (β : Blk) : O → Nat → Prop
  | .box _ cs, o => o < cs.length
  | .arr _ sz els, o => o < els.length * sz
  | _, _ => False
open Classical in
/-- The cells of some objects, told as memory that no one writes any more. -/
noncomputable def addM (m : Mem) (w : World) (s : List O) (ι : List Blk) (S : List Nat) : Mem := fun b o =>
  if (m b o).isSome then m b o else if ∃ (i : Nat) (ob : O) (β : Blk), i ∈ S ∧ s[i]? = some ob ∧ ι[i]? = some β ∧ β.blk = b ∧ ob.lim β o then w.cell? ⟨b, o, none⟩ else none
theorem addM_le (m : Mem) (w : World) (s : List O) (ι : List Blk) (S : List Nat) : m.le (addM m w s ι S) := fun b o v h => by simp [addM, h]
theorem addM_some {m : Mem} {w : World} {s : List O} {ι : List Blk} {S : List Nat} {b o : Nat} {v : Value} (h : addM m w s ι S b o = some v) :
    m b o = some v ∨ (m b o = none ∧ w.cell? ⟨b, o, none⟩ = some v ∧ ∃ (i : Nat) (ob : O) (β : Blk), i ∈ S ∧ s[i]? = some ob ∧ ι[i]? = some β ∧ β.blk = b ∧ ob.lim β o) := by
  unfold addM at h
  split at h
  · exact .inl h
  · rename_i hn
    split at h
    · rename_i hx
      exact .inr ⟨by simpa using hn, h, hx⟩
    · cases h
theorem addM_none {m : Mem} {w : World} {s : List O} {ι : List Blk} {S : List Nat} {b o : Nat} (h : m b o = none)
    (hx : ∀ (i : Nat) (ob : O) (β : Blk), i ∈ S → s[i]? = some ob → ι[i]? = some β → β.blk = b → ¬ ob.lim β o) : addM m w s ι S b o = none := by
  unfold addM
  rw [h]
  simp only [Option.isSome_none, Bool.false_eq_true, if_false]
  rw [if_neg]
  rintro ⟨i, ob, β, h1, h2, h3, h4, h5⟩
  exact hx i ob β h1 h2 h3 h4 h5
theorem addM_get {m : Mem} {w : World} {s : List O} {ι : List Blk} {S : List Nat} (hm : m.ok w) {i : Nat} {ob : O} {β : Blk} (hi : i ∈ S) (hs : s[i]? = some ob) (hι : ι[i]? = some β) {o : Nat} (hl : ob.lim β o) {x : Value}
    (hc : w.cell? ⟨β.blk, o, none⟩ = some x) : addM m w s ι S β.blk o = some x := by
  unfold addM
  split
  · rename_i h
    obtain ⟨v, hv⟩ := Option.isSome_iff_exists.1 h
    have := hm _ _ _ hv
    rw [hc] at this
    rw [hv, Option.some.inj this]
  · rw [if_pos ⟨i, ob, β, hi, hs, hι, rfl, hl⟩, hc]

theorem O.ro_ro (o : O) : o.ro.ro = o.ro := by cases o <;> rfl
theorem O.ro_gone {o : O} : o.ro ≠ .gone ↔ o ≠ .gone := by cases o <;> simp [O.ro]
theorem mark_get : ∀ (S : List Nat) (s : List O) (i : Nat), (mark s S)[i]? = (s[i]?).map fun o => if i ∈ S then o.ro else o
  | [], s, i => by simp [mark]
  | j :: S, s, i => by
    rw [mark, mark_get S, at?_eq]
    cases h : s[j]? with
    | none =>
      by_cases q : i = j
      · subst q; simp [h]
      · simp [q]
    | some o =>
      simp only [setAt_eq, List.getElem?_set]
      have hj : j < s.length := (List.getElem?_eq_some_iff.1 h).1
      by_cases q : i = j
      · subst q
        have e1 : s[i] = o := (List.getElem?_eq_some_iff.1 h).2
        simp [hj, e1, O.ro_ro]
      · have q' : ¬ j = i := fun z => q z.symm
        simp [q, q']
theorem mark_length : ∀ (S : List Nat) (s : List O), (mark s S).length = s.length
  | [], s => rfl
  | j :: S, s => by
    rw [mark, mark_length S]
    split <;> simp [setAt_eq]

theorem cell_heap {w : World} {b : Nat} {vs : List Value} {e : TypeId} {fr : Nat × Nat} (h : w.heap[b]? = some (.cells vs.toArray e fr)) (o : Nat) : w.cell? ⟨b, o, none⟩ = vs[o]? := by
  simp [World.cell?, h]

section
variable {w0 : World} {m0 : Mem} {N : Nat} {m : Mem} {ι : List Blk} {e : Env} {s : List O} {a : Act} {w : World}

/-- What leaves the frame is frozen. -/
theorem St.frz1 (h : St w0 m0 N m ι e s a w) (S : List Nat) : ∀ (n : Nat) (v : V) (x : Value), Rep m ι v x → (∀ i ∈ idl n s v, i ∈ S) → Rep (addM m w s ι S) [] (frz n s v) x
  | 0, _, x, _, _ => .undef _ _
  | n + 1, v, x, hr, hS => by
    have ih := St.frz1 h S n
    have hle := addM_le m w s ι S
    cases hr with
    | undef => exact .undef _ _
    | int _ k z hz => exact .int _ k z hz
    | bool _ b => exact .bool _ b
    | str _ b hb => exact .str _ b hb
    | nilFn => exact .nilFn _
    | nilPtr => exact .nilPtr _
    | nilMap => exact .nilMap _
    | nilI => exact .nilI _
    | fn _ f p q vp vq hp hq rp rq =>
      refine .fn _ f _ _ vp vq (by simp [hp]) (by simp [hq]) ?_ ?_
      · intro i c y hc hy
        simp only [List.getElem?_map, Option.map_eq_some_iff] at hc
        obtain ⟨c', hc', rfl⟩ := hc
        refine ih c' y (rp i c' y hc' hy) fun j hj => hS j ?_
        simp only [idl, List.mem_append, List.mem_flatMap]
        exact .inl ⟨c', List.mem_of_getElem? hc', hj⟩
      · intro i c y hc hy
        simp only [List.getElem?_map, Option.map_eq_some_iff] at hc
        obtain ⟨c', hc', rfl⟩ := hc
        refine ih c' y (rq i c' y hc' hy) fun j hj => hS j ?_
        simp only [idl, List.mem_append, List.mem_flatMap]
        exact .inr ⟨c', List.mem_of_getElem? hc', hj⟩
    | iface _ t v x hv => exact .iface _ t _ x (ih v x hv hS)
    | ptr _ id off β hβ =>
      simp only [frz, at?_eq]
      split
      · rename_i wr cs hs
        have hid : id ∈ S := hS id (by simp [idl])
        obtain ⟨vs, et, fr, hh, hcs, _, _⟩ := h.obj id _ β hs hβ
        refine .elem _ _ β.blk off (fun j => vs.getD (off + j) undef) ?_ ?_
        · intro j c hj
          simp only [List.getElem?_map, Option.map_eq_some_iff, List.getElem?_drop] at hj
          obtain ⟨c', hc', rfl⟩ := hj
          obtain ⟨y, hy, _⟩ := hcs.get hc'
          refine addM_get h.mok hid hs hβ (show off + j < cs.length from (List.getElem?_eq_some_iff.1 hc').1) ?_
          rw [cell_heap hh, hy, List.getD_eq_getElem?_getD, hy, Option.getD_some]
        · intro j c hj
          simp only [List.getElem?_map, Option.map_eq_some_iff, List.getElem?_drop] at hj
          obtain ⟨c', hc', rfl⟩ := hj
          obtain ⟨y, hy, ry⟩ := hcs.get hc'
          rw [List.getD_eq_getElem?_getD, hy, Option.getD_some]
          refine ih c' y ry fun k hk => hS k ?_
          simp only [idl, at?_eq, hs, List.mem_cons, List.mem_flatMap]
          exact .inr ⟨c', List.mem_of_getElem? (i := j) (by simpa using hc'), hk⟩
      · exact .undef _ _
    | eptr _ id i off β hβ =>
      simp only [frz, at?_eq]
      split
      · rename_i wr sz els hs
        have hid : id ∈ S := hS id (by simp [idl])
        obtain ⟨vs, et, fr, rfl, hh, hvl, hcap, hn, hel, hsz, hcs, _, _, _⟩ := h.obj id _ β hs hβ
        refine .elem _ _ β.blk (i * β.sz + off) (fun j => vs.getD (i * β.sz + (off + j)) undef) ?_ ?_
        · intro j c hj
          simp only [List.getElem?_drop] at hj
          cases hi : els[i]? with
          | none => simp [hi] at hj
          | some el =>
            simp only [hi, Option.getD_some] at hj
            obtain ⟨y, hy, _⟩ := hcs i (off + j) el c hi hj
            have hlt : off + j < el.length := (List.getElem?_eq_some_iff.1 hj).1
            have hle2 : i < els.length := (List.getElem?_eq_some_iff.1 hi).1
            have hes := hsz el (List.mem_of_getElem? hi)
            have e1 : i * β.sz + off + j = i * β.sz + (off + j) := by omega
            rw [e1]
            refine addM_get h.mok hid hs hβ (show i * β.sz + (off + j) < els.length * β.sz from ?_) ?_
            · have : (i + 1) * β.sz ≤ els.length * β.sz := Nat.mul_le_mul_right _ hle2
              rw [Nat.add_mul, Nat.one_mul] at this
              omega
            · rw [cell_heap hh, hy, List.getD_eq_getElem?_getD, hy, Option.getD_some]
        · intro j c hj
          simp only [List.getElem?_drop] at hj
          cases hi : els[i]? with
          | none => simp [hi] at hj
          | some el =>
            simp only [hi, Option.getD_some] at hj
            obtain ⟨y, hy, ry⟩ := hcs i (off + j) el c hi hj
            rw [List.getD_eq_getElem?_getD, hy, Option.getD_some]
            exact ry.mono hle
      · exact .undef _ _
    | elem _ cs b o g hm hc => exact (Rep.elem _ cs b o g hm hc).mono hle
    | row _ x els p cap sz b o g hx hc hl hs ha hm hr => exact (Rep.row [] false els p cap sz b o g (by simp) hc hl hs ha hm hr).mono hle
    | sl _ id off len p cap β hβ hl hc hn hb ha =>
      simp only [frz, at?_eq]
      split
      · rename_i wr sz els hs
        have hid : id ∈ S := hS id (by simp [idl])
        obtain ⟨vs, et, fr, rfl, hh, hvl, hcap, hnn, hel, hsz, hcs, _, _, _⟩ := h.obj id _ β hs hβ
        have hlen : ((els.drop off).take len).length = len := by simp; omega
        have key := Rep.row (m := addM m w s ι S) [] false ((els.drop off).take len) p cap β.sz β.blk (off * β.sz) (fun i j => vs.getD ((off + i) * β.sz + j) undef)
          (by simp) (by omega) (by omega) (fun el he => hsz el (List.mem_of_mem_drop (List.mem_of_mem_take he)))
          (fun hne => ha (fun q => hne (List.eq_nil_of_length_eq_zero (by omega)))) ?_ ?_
        · rwa [hlen] at key
        · intro i j el c hi hj
          rw [List.getElem?_take] at hi
          split at hi
          · rename_i hil
            rw [List.getElem?_drop] at hi
            obtain ⟨y, hy, _⟩ := hcs (off + i) j el c hi hj
            have hlt : j < el.length := (List.getElem?_eq_some_iff.1 hj).1
            have hle2 : off + i < els.length := (List.getElem?_eq_some_iff.1 hi).1
            have hes := hsz el (List.mem_of_getElem? hi)
            have e1 : off * β.sz + i * β.sz + j = (off + i) * β.sz + j := by rw [Nat.add_mul]
            rw [e1]
            refine addM_get h.mok hid hs hβ (show (off + i) * β.sz + j < els.length * β.sz from ?_) ?_
            · have : (off + i + 1) * β.sz ≤ els.length * β.sz := Nat.mul_le_mul_right _ hle2
              rw [Nat.add_mul _ 1, Nat.one_mul] at this
              omega
            · rw [cell_heap hh, hy, List.getD_eq_getElem?_getD, hy, Option.getD_some]
          · cases hi
        · intro i j el c hi hj
          rw [List.getElem?_take] at hi
          split at hi
          · rw [List.getElem?_drop] at hi
            obtain ⟨y, hy, ry⟩ := hcs (off + i) j el c hi hj
            rw [List.getD_eq_getElem?_getD, hy, Option.getD_some]
            exact ry.mono hle
          · cases hi
      · exact .undef _ _
    | map _ id β hβ => exact .undef _ _
    | agg _ cs vs hl hr =>
      refine Rep.aggL ⟨by simp [hl], fun i c y hc hy => ?_⟩
      simp only [List.getElem?_map, Option.map_eq_some_iff] at hc
      obtain ⟨c', hc', rfl⟩ := hc
      refine ih c' y (hr i c' y hc' hy) fun j hj => hS j ?_
      simp only [idl, List.mem_flatMap]
      exact ⟨c', List.mem_of_getElem? hc', hj⟩
    | tup _ cs vs hl hr =>
      refine Rep.tupL ⟨by simp [hl], fun i c y hc hy => ?_⟩
      simp only [List.getElem?_map, Option.map_eq_some_iff] at hc
      obtain ⟨c', hc', rfl⟩ := hc
      refine ih c' y (hr i c' y hc' hy) fun j hj => hS j ?_
      simp only [idl, List.mem_flatMap]
      exact ⟨c', List.mem_of_getElem? hc', hj⟩

theorem Ob.ne_of_own {m : Mem} {o : O} {β : Blk} {k : Nat} (h : o.lim β k) : o ≠ .gone := by rintro rfl; exact h

theorem St.mark (h : St w0 m0 N m ι e s a w) (S : List Nat) : St w0 m0 N (addM m w s ι S) ι e (Ab.mark s S) a w :=
  have hle := addM_le m w s ι S
  { defers := h.defers
    size := h.size
    env := fun t => (h.env t).mono hle
    mle := h.mle.trans hle
    mok := fun b o v hv => by
      rcases addM_some hv with q | ⟨_, q, _⟩
      · exact h.mok _ _ _ q
      · exact q
    fresh := fun b o x hx h0 => by
      rcases addM_some hx with q | ⟨_, q, i, ob, β, hi, hs, hι, hb, hl⟩
      · exact h.fresh _ _ _ q h0
      · exact hb ▸ (h.own i ob β hs hι (Ob.ne_of_own (m := m) hl)).1
    below := h.below
    len := by rw [h.len, mark_length]
    obj := fun i o β ho hβ => by
      rw [mark_get, Option.map_eq_some_iff] at ho
      obtain ⟨p, hp, rfl⟩ := ho
      have hob := h.obj i p β hp hβ
      have other : ∀ k, (i ∈ S → ¬ p.lim β k) → p ≠ .gone → m β.blk k = none → addM m w s ι S β.blk k = none := by
        intro k hk hg hn
        refine addM_none hn fun j ob γ hj hs hι hb hl => ?_
        by_cases q : j = i
        · subst q
          rw [hp] at hs
          obtain rfl := Option.some.inj hs
          rw [hβ] at hι
          obtain rfl := Option.some.inj hι
          exact hk hj hl
        · exact h.inj j i ob p γ β hs hp hι hβ (Ob.ne_of_own (m := m) hl) hg q hb
      cases p with
      | gone => split <;> exact trivial
      | box wr cs =>
        obtain ⟨vs, et, fr, h1, h2, h3, h4⟩ := hob
        by_cases q : i ∈ S
        · rw [if_pos q]
          exact ⟨vs, et, fr, h1, h2.mono hle, h3, by simp⟩
        · rw [if_neg q]
          exact ⟨vs, et, fr, h1, h2.mono hle, h3, fun hw k => other k (fun z => absurd z q) (by simp) (h4 hw k)⟩
      | arr wr sz els =>
        obtain ⟨vs, et, fr, rfl, h1, h2, h3, h4, h5, h6, h7, h8, h9, h10⟩ := hob
        by_cases q : i ∈ S
        · rw [if_pos q]
          exact ⟨vs, et, fr, rfl, h1, h2, h3, h4, h5, h6, fun x y el c hx hy => let ⟨v, hv, rv⟩ := h7 x y el c hx hy; ⟨v, hv, rv.mono hle⟩, h8,
            fun k hk => other k (fun _ hl => by simp only [O.lim] at hl; omega) (by simp) (h9 k hk), by simp⟩
        · rw [if_neg q]
          exact ⟨vs, et, fr, rfl, h1, h2, h3, h4, h5, h6, fun x y el c hx hy => let ⟨v, hv, rv⟩ := h7 x y el c hx hy; ⟨v, hv, rv.mono hle⟩, h8,
            fun k hk => other k (fun z => absurd z q) (by simp) (h9 k hk), fun hw k => other k (fun z => absurd z q) (by simp) (h10 hw k)⟩
      | map wr es => exact hob.elim
    own := fun i o β ho hβ hg => by
      rw [mark_get, Option.map_eq_some_iff] at ho
      obtain ⟨p, hp, rfl⟩ := ho
      exact h.own i p β hp hβ (fun z => hg (by subst z; split <;> rfl))
    inj := fun i j o p β γ ho hp hβ hγ hgo hgp hne => by
      rw [mark_get, Option.map_eq_some_iff] at ho hp
      obtain ⟨o', ho', rfl⟩ := ho
      obtain ⟨p', hp', rfl⟩ := hp
      exact h.inj i j o' p' β γ ho' hp' hβ hγ (fun z => hgo (by subst z; split <;> rfl)) (fun z => hgp (by subst z; split <;> rfl)) hne }

/-- Values that leave the frame. -/
theorem St.freeze (h : St w0 m0 N m ι e s a w) {vs : List V} {xs : List Value} (hr : RepL m ι vs xs) :
    ∃ m', m.le m' ∧ St w0 m0 N m' ι e (Ab.mark s (vs.flatMap (idl 8 s))) a w ∧ RepL m' [] (vs.map (frz 8 s)) xs := by
  refine ⟨_, addM_le m w s ι _, h.mark _, ⟨by simp [hr.1], fun i c y hc hy => ?_⟩⟩
  simp only [List.getElem?_map, Option.map_eq_some_iff] at hc
  obtain ⟨c', hc', rfl⟩ := hc
  exact h.frz1 _ 8 c' y (hr.2 i c' y hc' hy) fun j hj => List.mem_flatMap.2 ⟨c', List.mem_of_getElem? hc', hj⟩

theorem Mem.ok.lt {m : Mem} {w : World} (h : m.ok w) {b o : Nat} {v : Value} (hv : m b o = some v) : b < w.heap.size := World.block_lt_of_cell? w ⟨b, o, none⟩ (h b o v hv)

/-- Memory that has only grown. -/
theorem St.grow (h : St w0 m0 N m ι e s a w) {w' : World} {m' : Mem} (hm : m.le m') (ok : m'.ok w') (hb : Below w.heap.size w w') (hf : ∀ b o x, m' b o = some x → m b o = none → w.heap.size ≤ b) : St w0 m0 N m' ι e s a w' :=
  { defers := h.defers
    size := h.size
    env := fun t => (h.env t).mono hm
    mle := h.mle.trans hm
    mok := ok
    fresh := fun b o x hx h0 => by
      cases q : m b o with
      | none => exact Nat.le_trans h.below.size (hf b o x hx q)
      | some y => exact h.fresh b o y q h0
    below := h.below.trans (hb.mono h.below.size)
    len := h.len
    obj := fun i o β ho hβ => by
      have hob := h.obj i o β ho hβ
      have none_ : ∀ k, o ≠ .gone → m β.blk k = none → m' β.blk k = none := fun k hg hn => by
        cases q : m' β.blk k with
        | none => rfl
        | some y =>
          have := hf _ _ _ q hn
          have := (h.own i o β ho hβ hg).2
          omega
      cases o with
      | gone => exact trivial
      | box wr cs =>
        obtain ⟨vs, et, fr, h1, h2, h3, h4⟩ := hob
        exact ⟨vs, et, fr, by rw [hb.block _ (h.own i _ β ho hβ (by simp)).2]; exact h1, h2.mono hm, h3, fun hw k => none_ k (by simp) (h4 hw k)⟩
      | arr wr sz els =>
        obtain ⟨vs, et, fr, rfl, h1, h2, h3, h4, h5, h6, h7, h8, h9, h10⟩ := hob
        exact ⟨vs, et, fr, rfl, by rw [hb.block _ (h.own i _ β ho hβ (by simp)).2]; exact h1, h2, h3, h4, h5, h6, fun x y el c hx hy => let ⟨v, hv, rv⟩ := h7 x y el c hx hy; ⟨v, hv, rv.mono hm⟩, h8,
            fun k hk => none_ k (by simp) (h9 k hk), fun hw k => none_ k (by simp) (h10 hw k)⟩
      | map wr es => exact hob.elim
    own := fun i o β ho hβ hg => ⟨(h.own i o β ho hβ hg).1, Nat.lt_of_lt_of_le (h.own i o β ho hβ hg).2 hb.size⟩
    inj := h.inj }

/-- A new object. -/
theorem St.new (h : St w0 m0 N m ι e s a w) {w' : World} (hb : Below w.heap.size w w') (hs : w.heap.size < w'.heap.size) {β : Blk} (hβ : β.blk = w.heap.size) {o : O} (ho : Ob m (ι ++ [β]) w' β o) :
    St w0 m0 N m (ι ++ [β]) e (s ++ [o]) a w' :=
  have ext : ∀ (i : Nat) γ, ι[i]? = some γ → (ι ++ [β])[i]? = some γ := fun i γ hi => by
    rw [List.getElem?_append_left (List.getElem?_eq_some_iff.1 hi).1]; exact hi
  have mok' : m.ok w' := fun b o v hv => by
    rw [World.cell?_of_block (w := w) (a := ⟨b, o, none⟩) (hb.block b (h.mok.lt hv))]
    exact h.mok b o v hv
  have g := h.grow (Mem.le.refl m) mok' hb (fun b o x hx hn => by rw [hx] at hn; cases hn)
  { defers := h.defers
    size := h.size
    env := fun t => (h.env t).ext ext
    mle := h.mle
    mok := mok'
    fresh := h.fresh
    below := g.below
    len := by simp [h.len]
    obj := fun i p γ hp hγ => by
      rcases Nat.lt_or_ge i s.length with hi | hi
      · rw [List.getElem?_append_left hi] at hp
        rw [List.getElem?_append_left (h.len ▸ hi)] at hγ
        have := g.obj i p γ hp hγ
        cases p with
        | gone => exact trivial
        | box wr cs =>
          obtain ⟨vs, et, fr, h1, h2, h3, h4⟩ := this
          exact ⟨vs, et, fr, h1, h2.ext ext, h3, h4⟩
        | arr wr sz els => exact this
        | map wr es => exact this.elim
      · have : i = s.length := by
          have := (List.getElem?_eq_some_iff.1 hp).1
          simp at this
          omega
        subst this
        rw [List.getElem?_append_right (Nat.le_refl _)] at hp
        rw [List.getElem?_append_right (by rw [h.len]; exact Nat.le_refl _)] at hγ
        simp [h.len] at hp hγ
        subst hp; subst hγ
        exact ho
    own := fun i p γ hp hγ hg => by
      rcases Nat.lt_or_ge i s.length with hi | hi
      · rw [List.getElem?_append_left hi] at hp
        rw [List.getElem?_append_left (h.len ▸ hi)] at hγ
        exact g.own i p γ hp hγ hg
      · have : i = s.length := by
          have := (List.getElem?_eq_some_iff.1 hp).1
          simp at this
          omega
        subst this
        rw [List.getElem?_append_right (by rw [h.len]; exact Nat.le_refl _)] at hγ
        simp [h.len] at hγ
        subst hγ
        rw [hβ]
        exact ⟨h.below.size, hs⟩
    inj := fun i j p q γ δ hp hq hγ hδ hgp hgq hne => by
      have split_ : ∀ {i : Nat} {p : O} {γ : Blk}, (s ++ [o])[i]? = some p → (ι ++ [β])[i]? = some γ → (s[i]? = some p ∧ ι[i]? = some γ) ∨ (i = s.length ∧ γ = β) := by
        intro i p γ hp hγ
        rcases Nat.lt_or_ge i s.length with hi | hi
        · rw [List.getElem?_append_left hi] at hp
          rw [List.getElem?_append_left (h.len ▸ hi)] at hγ
          exact .inl ⟨hp, hγ⟩
        · have : i = s.length := by
            have := (List.getElem?_eq_some_iff.1 hp).1
            simp at this
            omega
          subst this
          rw [List.getElem?_append_right (by rw [h.len]; exact Nat.le_refl _)] at hγ
          simp [h.len] at hγ
          exact .inr ⟨rfl, hγ.symm⟩
      rcases split_ hp hγ with ⟨h1, h2⟩ | ⟨h1, h2⟩ <;> rcases split_ hq hδ with ⟨h3, h4⟩ | ⟨h3, h4⟩
      · exact h.inj i j p q γ δ h1 h3 h2 h4 hgp hgq hne
      · have := (h.own i p γ h1 h2 hgp).2
        rw [h4, hβ]
        omega
      · have := (h.own j q δ h3 h4 hgq).2
        rw [h2, hβ]
        omega
      · omega }
end
end Go.Proofs.Ytkkfclpodgagdaa.Ab
