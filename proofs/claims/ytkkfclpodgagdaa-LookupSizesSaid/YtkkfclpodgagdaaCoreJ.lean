/- The machine's operations do what the rules say: append. -/
import Derived.Test.YtkkfclpodgagdaaCoreI
import Derived.Laws.AppendOwn
namespace Go.Proofs.Ytkkfclpodgagdaa.Ab
open Go.RowKit
set_option linter.unusedVariables false
set_option linter.unusedSimpArgs false

/-- Rows of elements and the cells in which they lie, one behind the other. -/
structure Flat (m : Mem) (sz : Nat) (els : List (List V)) (vs : List Value) : Prop where
  len : vs.length = els.length * sz
  each : ∀ el ∈ els, el.length = sz
  rep : ∀ (i j : Nat) el c, els[i]? = some el → el[j]? = some c → ∃ x, vs[i * sz + j]? = some x ∧ Rep m [] c x
theorem Flat.nil (m : Mem) (sz : Nat) : Flat m sz [] [] := ⟨by simp, by simp, by simp⟩
theorem Flat.append {m : Mem} {sz : Nat} {a b : List (List V)} {va vb : List Value} (h : Flat m sz a va) (k : Flat m sz b vb) : Flat m sz (a ++ b) (va ++ vb) :=
  ⟨by simp only [List.length_append, h.len, k.len, Nat.add_mul], fun el he => (List.mem_append.1 he).elim (h.each el) (k.each el), fun i j el c hi hj => by
    have hjl := (List.getElem?_eq_some_iff.1 hj).1
    rcases Nat.lt_or_ge i a.length with q | q
    · rw [List.getElem?_append_left q] at hi
      obtain ⟨x, hx, rx⟩ := h.rep i j el c hi hj
      exact ⟨x, by rw [List.getElem?_append_left (List.getElem?_eq_some_iff.1 hx).1]; exact hx, rx⟩
    · rw [List.getElem?_append_right q] at hi
      obtain ⟨x, hx, rx⟩ := k.rep _ j el c hi hj
      refine ⟨x, ?_, rx⟩
      have e1 : i * sz = a.length * sz + (i - a.length) * sz := by rw [← Nat.add_mul]; congr 1; omega
      rw [List.getElem?_append_right (by rw [h.len]; omega), h.len, e1, ← hx]
      congr 1
      omega⟩
theorem Flat.mono {m m' : Mem} (hm : m.le m') {sz : Nat} {els : List (List V)} {vs : List Value} (h : Flat m sz els vs) : Flat m' sz els vs :=
  ⟨h.len, h.each, fun i j el c hi hj => let ⟨x, hx, rx⟩ := h.rep i j el c hi hj; ⟨x, hx, rx.mono hm⟩⟩
theorem Flat.part {m : Mem} {sz : Nat} {els : List (List V)} {vs : List Value} (h : ∀ (i j : Nat) el c, els[i]? = some el → el[j]? = some c → ∃ x, vs[i * sz + j]? = some x ∧ Rep m [] c x) (hs : ∀ el ∈ els, el.length = sz)
    (hl : els.length * sz ≤ vs.length) (off len : Nat) (ho : off + len ≤ els.length) : Flat m sz ((els.drop off).take len) ((vs.drop (off * sz)).take (len * sz)) := by
  have h2 : (off + len) * sz ≤ els.length * sz := Nat.mul_le_mul_right _ ho
  rw [Nat.add_mul] at h2
  refine ⟨?_, fun el he => hs el (List.mem_of_mem_drop (List.mem_of_mem_take he)), fun i j el c hi hj => ?_⟩
  · simp only [List.length_take, List.length_drop]
    rw [Nat.min_eq_left (show len * sz ≤ vs.length - off * sz by omega), Nat.min_eq_left (by omega)]
  · rw [List.getElem?_take] at hi
    split at hi
    · rename_i hil
      rw [List.getElem?_drop] at hi
      obtain ⟨x, hx, rx⟩ := h (off + i) j el c hi hj
      refine ⟨x, ?_, rx⟩
      have hjl := (List.getElem?_eq_some_iff.1 hj).1
      have hes := hs el (List.mem_of_getElem? hi)
      have : (i + 1) * sz ≤ len * sz := Nat.mul_le_mul_right _ hil
      rw [Nat.add_mul, Nat.one_mul] at this
      rw [List.getElem?_take, if_pos (by omega), List.getElem?_drop, ← hx]
      congr 1
      rw [Nat.add_mul]
      omega
    · cases hi

section
variable {P : Program} {w0 : World} {m0 : Mem} {N : Nat} {m : Mem} {ι : List Blk} {e : Env} {s : List O} {a : Act} {w : World} {o : Oper} {K : V → List O → Prop}

/-- Where elements come from. -/
structure Src (P : Program) (w : World) (v : Value) (n sz : Nat) (vs : List Value) : Prop where
  len : ∀ k, (Builtin.lenOf v).run P { w with drawn := k } = .ok n { w with drawn := k }
  cells : ∀ k, (Builtin.firstCells sz n v).run P { w with drawn := k } = .ok vs.toArray { w with drawn := k }
theorem src_slice {b o len cap sz : Nat} {vs : List Value} (hl : vs.length = len * sz) (hm : ∀ (j : Nat) x, vs[j]? = some x → w.cell? ⟨b, o + j, none⟩ = some x) : Src P w (.slice (some ⟨b, o, none⟩) len cap) len sz vs :=
  ⟨fun k => by simp [Builtin.lenOf], fun k => by
    simp only [Builtin.firstCells]
    rw [← hl]
    exact run_loadCells_list (P := P) { w with drawn := k } ⟨b, o, none⟩ vs (fun j x hj => by rw [addr_add]; exact hm j x hj)⟩
theorem src_none {a : Option Addr} {cap sz : Nat} : Src P w (.slice a 0 cap) 0 sz [] :=
  ⟨fun k => by simp [Builtin.lenOf], fun k => by
    cases a <;> simp [Builtin.firstCells, loadCells, loadCellsFrom]⟩
theorem src_string {b : ByteArray} : Src P w (.string b) b.size 1 (b.data.toList.map fun c => .int .u8 c.toNat) :=
  ⟨fun k => by simp [Builtin.lenOf], fun k => by
    simp only [Builtin.firstCells, Sem.run_pure]
    congr 1
    rw [show b.extract 0 b.size = b by simp]
    apply Array.ext'
    simp⟩
theorem flat_bytes (m : Mem) (b : ByteArray) : Flat m 1 (b.data.toList.map fun c => [V.int .u8 c.toNat]) (b.data.toList.map fun c => .int .u8 c.toNat) :=
  ⟨by simp, by simp, fun i j el c hi hj => by
    simp only [List.getElem?_map, Option.map_eq_some_iff] at hi
    obtain ⟨u, hu, rfl⟩ := hi
    cases j with
    | zero =>
      simp at hj
      subst hj
      exact ⟨.int .u8 u.toNat, by simp [hu], .int _ _ _ (u8_wrap u)⟩
    | succ j => simp at hj⟩

/-- A row as it came in: its cells. -/
theorem row_cells {x : Bool} {els : List (List V)} {v : Value} (h : Rep m ι (.row x els) v) (hm : m.ok w) {sz : Nat} (hs : ∀ el ∈ els, el.length = sz) :
    ∃ (vs : List Value) (a : Option Addr) (cap : Nat), v = .slice a els.length cap ∧ els.length ≤ cap ∧ (x = true → cap = els.length) ∧ els.length ≤ 9223372036854775807 ∧ Flat m sz els vs ∧ Src P w v els.length sz vs ∧
      (els ≠ [] → ∃ b o, a = some ⟨b, o, none⟩ ∧ ∀ (j : Nat) y, vs[j]? = some y → w.cell? ⟨b, o + j, none⟩ = some y) := by
  cases h with
  | row _ _ _ p cap sz' b off g hx1 hc1 hl1 hs1 ha1 hm1 hr1 =>
    by_cases hne : els = []
    · subst hne
      exact ⟨[], p, cap, rfl, hc1, hx1, hl1, Flat.nil m sz, src_none, fun z => absurd rfl z⟩
    · have hsz : sz' = sz := by
        obtain ⟨el, hel⟩ := List.exists_mem_of_ne_nil els hne
        exact (hs1 el hel).symm.trans (hs el hel)
      subst hsz
      obtain rfl := ha1 hne
      have hcell : ∀ (k : Nat), k < els.length * sz' → m b (off + k) = some (g (k / sz') (k % sz')) := by
        intro k hk
        have hz : 0 < sz' := by
          rcases Nat.eq_zero_or_pos sz' with q | q
          · subst q; simp at hk
          · exact q
        have h1 : k / sz' < els.length := by rw [Nat.div_lt_iff_lt_mul hz]; exact hk
        have h2 : k % sz' < (els[k / sz']).length := by rw [hs1 _ (List.getElem_mem h1)]; exact Nat.mod_lt _ hz
        have := hm1 (k / sz') (k % sz') _ _ (List.getElem?_eq_getElem h1) (List.getElem?_eq_getElem h2)
        rw [← this]
        congr 1
        have := Nat.div_add_mod k sz'
        rw [Nat.mul_comm] at this
        omega
      have hcells : ∀ (j : Nat) y, ((List.range (els.length * sz')).map fun k => g (k / sz') (k % sz'))[j]? = some y → w.cell? ⟨b, off + j, none⟩ = some y := by
        intro j y hj
        simp only [List.getElem?_map, Option.map_eq_some_iff] at hj
        obtain ⟨k, hk, rfl⟩ := hj
        have hlt : j < els.length * sz' := by have := (List.getElem?_eq_some_iff.1 hk).1; simpa using this
        have : k = j := by rw [List.getElem?_range hlt] at hk; exact (Option.some.inj hk).symm
        subst this
        exact hm _ _ _ (hcell k hlt)
      refine ⟨(List.range (els.length * sz')).map fun k => g (k / sz') (k % sz'), _, cap, rfl, hc1, hx1, hl1, ⟨by simp, hs1, ?_⟩, src_slice (by simp) hcells, fun _ => ⟨b, off, rfl, hcells⟩⟩
      intro i j el c hi hj
      have hil := (List.getElem?_eq_some_iff.1 hi).1
      have hjl := (List.getElem?_eq_some_iff.1 hj).1
      rw [hs1 el (List.mem_of_getElem? hi)] at hjl
      have hk : i * sz' + j < els.length * sz' := by
        have : (i + 1) * sz' ≤ els.length * sz' := Nat.mul_le_mul_right _ hil
        rw [Nat.add_mul, Nat.one_mul] at this
        omega
      refine ⟨g i j, ?_, hr1 i j el c hi hj⟩
      rw [List.getElem?_map, List.getElem?_range hk, Option.map_some]
      have e1 : (i * sz' + j) / sz' = i := by
        rw [Nat.add_comm, Nat.add_mul_div_right _ _ (by omega), Nat.div_eq_of_lt hjl, Nat.zero_add]
      have e2 : (i * sz' + j) % sz' = j := by
        rw [Nat.add_comm, Nat.add_mul_mod_self_right, Nat.mod_eq_of_lt hjl]
      rw [e1, e2]

theorem run_grow {t u ty el : TypeId} {i : TypeInfo} {z : Value} {du : TypeDesc} (ht : P.underlying t = some (.slice el)) (hu : P.underlying u = some du) (hni : ∀ k, du ≠ .int k) (hi : P.info? el = some i) (hz : i.zero = some z)
    {base : Option Addr} {sLen sCap n : Nat} {y : Value} {olds news : List Value} (h1 : ∀ k, (Builtin.firstCells i.size sLen (.slice base sLen sCap)).run P { w with drawn := k } = .ok olds.toArray { w with drawn := k }) (h2 : Src P w y n i.size news)
    (hg : sCap < sLen + n) (hb : (sLen + n) * (i.bytes + 1) ≤ 140737488355327) :
    ∃ c rest, sLen + n ≤ c ∧ rest.length = (c - (sLen + n)) * z.cells.size ∧ (Builtin.append_ #[t, u] ty #[.slice base sLen sCap, y]).run P w =
      .ok (.slice (some ⟨w.heap.size, 0, none⟩) (sLen + n) c) (wnew { w with drawn := w.drawn + 1 } (olds ++ news ++ rest) el) := by
  have hn : ¬ (sLen + n ≤ sCap) := by omega
  rw [Nat.mul_add, Nat.mul_one] at hb
  have hfit : Builtin.nextslicecap (sLen + n) sCap * i.bytes ≤ 281474976710656 := growslice_fits (by omega) (by omega)
  have h48' : ¬ (281474976710656 < Builtin.nextslicecap (sLen + n) sCap * i.bytes) := by omega
  have h63 : ¬ (((sLen + n : Nat) : Int) > IntKind.i64.max ∧ (false = true ∨ i.bytes = 0)) := by
    have : IntKind.i64.max = 9223372036854775807 := rfl
    omega
  have h63' : ¬ (9223372036854775807 < ((sLen : Int) + (n : Int))) := by omega
  have hl := h2.len w.drawn
  have hc := h2.cells (w.drawn + 1)
  have ho := h1 (w.drawn + 1)
  refine ⟨grownCap w (sLen + n) sCap el, (Builtin.zeroCells z.cells (grownCap w (sLen + n) sCap el - (sLen + n))).toList, grownCap_ge _ _ _ _, by simp [size_zeroCells], ?_⟩
  have hl' : (Builtin.lenOf y).run P w = .ok n w := hl
  have ho' : (Builtin.firstCells i.size sLen (.slice base sLen sCap)).run P w.drew = .ok olds.toArray w.drew := ho
  have hc' : (Builtin.firstCells i.size n y).run P w.drew = .ok news.toArray w.drew := hc
  have hnz : (du matches .int _) = false := by cases du <;> first | rfl | exact absurd rfl (hni _)
  simp [Builtin.append_, run_und ht, run_und hu, hnz, Go.sizeOf, typeInfo, zeroValue, hi, hz, hl', hn, h63', h48', Question.forced, ho', hc', newRow, grownCap, wnew]
  have e1 : olds.toArray ++ (news.toArray ++ Builtin.zeroCells z.cells ((Question.appendCap (sLen + n) sCap el).cut (w.tape w.drawn (Question.appendCap (sLen + n) sCap el)) - (sLen + n))) =
      (olds ++ (news ++ (Builtin.zeroCells z.cells ((Question.appendCap (sLen + n) sCap el).cut (w.tape w.drawn (Question.appendCap (sLen + n) sCap el)) - (sLen + n))).toList)).toArray := by
    apply Array.ext'
    simp
  rw [e1]
  rfl
theorem run_room {t u ty el : TypeId} {i : TypeInfo} {du : TypeDesc} (ht : P.underlying t = some (.slice el)) (hu : P.underlying u = some du) (hni : ∀ k, du ≠ .int k) (hi : P.info? el = some i)
    {b off sLen sCap n : Nat} {y : Value} {vs news : List Value} {et : TypeId} {fr : Nat × Nat} (hh : w.heap[b]? = some (.cells vs.toArray et fr)) (hfr : ∀ k, k < vs.length → ¬ (fr.1 ≤ k ∧ k < fr.2)) (h2 : Src P w y n i.size news)
    (ho : ∀ v ∈ news, v.oneCell' = true) (hr : sLen + n ≤ sCap) (hfit : off + sLen * i.size + news.length ≤ vs.length) :
    (Builtin.append_ #[t, u] ty #[.slice (some ⟨b, off, none⟩) sLen sCap, y]).run P w =
      .ok (.slice (some ⟨b, off, none⟩) (sLen + n) sCap) (wset w b (.cells (vs.take (off + sLen * i.size) ++ news ++ vs.drop (off + sLen * i.size + news.length)).toArray et fr)) := by
  have hl : (Builtin.lenOf y).run P w = .ok n w := h2.len w.drawn
  have hc : (Builtin.firstCells i.size n y).run P w = .ok news.toArray w := h2.cells w.drawn
  have hst := run_stores (P := P) (o := off + sLen * i.size) news 0 vs w hh (by omega) hfr ho
  simp only [Nat.add_zero] at hst
  have hnz : (du matches .int _) = false := by cases du <;> first | rfl | exact absurd rfl (hni _)
  simp [Builtin.append_, run_und ht, run_und hu, hnz, Go.sizeOf, typeInfo, hi, hl, hr, hc, addr_add, hst]
theorem run_same {t u ty el : TypeId} {i : TypeInfo} {du : TypeDesc} (ht : P.underlying t = some (.slice el)) (hu : P.underlying u = some du) (hni : ∀ k, du ≠ .int k) (hi : P.info? el = some i)
    {base : Option Addr} {sLen sCap : Nat} {y : Value} {news : List Value} (h2 : Src P w y 0 i.size news) (hn : news = []) (hr : sLen ≤ sCap) :
    (Builtin.append_ #[t, u] ty #[.slice base sLen sCap, y]).run P w = .ok (.slice base sLen sCap) w := by
  subst hn
  have hl : (Builtin.lenOf y).run P w = .ok 0 w := h2.len w.drawn
  have hc : (Builtin.firstCells i.size 0 y).run P w = .ok (#[] : Array Value) w := h2.cells w.drawn
  have hnz : (du matches .int _) = false := by cases du <;> first | rfl | exact absurd rfl (hni _)
  simp [Builtin.append_, run_und ht, run_und hu, hnz, Go.sizeOf, typeInfo, hi, hl, hr, hc]
  cases base <;> simp [storeCells]

/-- A row of the frame's own, made anew. -/
theorem St.newArr (h : St w0 m0 N m ι e s a w) {els : List (List V)} {vs rest : List Value} {sz c : Nat} (f : Flat m sz els vs) (hr : rest.length = (c - els.length) * sz) (hc : els.length ≤ c) (hl : els.length ≤ 9223372036854775807) (wr : Bool) (t : TypeId) :
    St w0 m0 N m (ι ++ [⟨w.heap.size, c, sz, els.length⟩]) e (s ++ [.arr wr sz els]) a (wnew w (vs ++ rest) t) :=
  h.new (below_new w _ t) (by rw [wnew_size]; omega) rfl
    ⟨vs ++ rest, t, (0, 0), rfl, wnew_at w _ t, by
      rw [List.length_append, f.len, hr, ← Nat.add_mul]
      congr 1
      show _ = c
      omega, hc, rfl, hl, f.each, fun i j el c hi hj => by
        obtain ⟨x, hx, rx⟩ := f.rep i j el c hi hj
        exact ⟨x, by rw [List.getElem?_append_left (List.getElem?_eq_some_iff.1 hx).1]; exact hx, rx⟩, fun i hi => by omega, fun o _ => h.mok.none_ (Nat.le_refl _) o, fun _ o => h.mok.none_ (Nat.le_refl _) o⟩

/-- A row goes on in its own block. -/
theorem St.extend (h : St w0 m0 N m ι e s a w) {id : Nat} {wr : Bool} {sz : Nat} {els els' : List (List V)} {β β' : Blk} (hs : s[id]? = some (.arr wr sz els)) (hβ : ι[id]? = some β) {vs vs' : List Value} {et : TypeId} {fr : Nat × Nat}
    (hh : w.heap[β.blk]? = some (.cells vs.toArray et fr)) (hv : ∀ k, k < els.length * sz → vs'[k]? = vs[k]?) (hb : β'.blk = β.blk) (ob : Ob m (ι ++ [β']) (wset w β.blk (.cells vs'.toArray et fr)) β' (.arr wr sz els')) :
    St w0 m0 N m (ι ++ [β']) e (s.set id .gone ++ [.arr wr sz els']) a (wset w β.blk (.cells vs'.toArray et fr)) :=
  have own := h.own id _ β hs hβ (by simp)
  have hid : id < s.length := (List.getElem?_eq_some_iff.1 hs).1
  have ext : ∀ (i : Nat) γ, ι[i]? = some γ → (ι ++ [β'])[i]? = some γ := fun i γ hi => by
    rw [List.getElem?_append_left (List.getElem?_eq_some_iff.1 hi).1]; exact hi
  have hml : ∀ o, els.length * sz ≤ o → m β.blk o = none := by
    obtain ⟨_, _, _, _, _, _, _, _, _, _, _, _, q, _⟩ := h.obj id _ β hs hβ
    exact q
  have split_ : ∀ {i : Nat} {p : O} {γ : Blk}, (s.set id .gone ++ [.arr wr sz els'])[i]? = some p → (ι ++ [β'])[i]? = some γ → p = .gone ∨ (i ≠ id ∧ s[i]? = some p ∧ ι[i]? = some γ) ∨ (i = s.length ∧ p = .arr wr sz els' ∧ γ = β') := by
    intro i p γ hp hγ
    rcases Nat.lt_or_ge i s.length with hi | hi
    · rw [List.getElem?_append_left (by simpa using hi), List.getElem?_set] at hp
      rw [List.getElem?_append_left (h.len ▸ hi)] at hγ
      split at hp
      · exact .inl (Option.some.inj hp).symm
      · rename_i hne
        exact .inr (.inl ⟨fun z => hne z.symm, hp, hγ⟩)
    · have : i = s.length := by
        have := (List.getElem?_eq_some_iff.1 hp).1
        simp at this
        omega
      subst this
      rw [List.getElem?_append_right (by simp)] at hp
      rw [List.getElem?_append_right (by rw [h.len]; exact Nat.le_refl _)] at hγ
      simp [h.len] at hp hγ
      exact .inr (.inr ⟨rfl, hp.symm, hγ.symm⟩)
  { defers := h.defers
    size := h.size
    env := fun t => (h.env t).ext ext
    mle := h.mle
    mok := fun b k v hv2 => by
      by_cases q : b = β.blk
      · subst q
        have hk : k < els.length * sz := by
          rcases Nat.lt_or_ge k (els.length * sz) with z | z
          · exact z
          · rw [hml k z] at hv2; cases hv2
        have h1 := h.mok _ _ _ hv2
        rw [cell_heap hh] at h1
        rw [cell_heap (vs := vs') (e := et) (fr := fr) (by rw [wset_heap, if_pos rfl, if_pos own.2]), hv k hk]
        exact h1
      · rw [World.cell?_of_block (w := w) (a := ⟨b, k, none⟩) (by show (wset w β.blk _).heap[b]? = _; rw [wset_heap, if_neg q])]
        exact h.mok b k v hv2
    fresh := h.fresh
    below := h.below.trans ⟨rfl, rfl, rfl, by rw [wset_size]; exact Nat.le_refl _, fun k hk => by rw [wset_heap, if_neg (by omega)]⟩
    len := by simp [h.len]
    obj := fun i p γ hp hγ => by
      rcases split_ hp hγ with rfl | ⟨hne, hp2, hγ2⟩ | ⟨_, rfl, rfl⟩
      · exact trivial
      · have := h.obj i p γ hp2 hγ2
        cases p with
        | gone => exact trivial
        | box wr cs =>
          obtain ⟨us, et, fr, h1, h2, h3, h4⟩ := this
          exact ⟨us, et, fr, by rw [wset_heap, if_neg (h.inj i id _ _ γ β hp2 hs hγ2 hβ (by simp) (by simp) hne)]; exact h1, h2.ext ext, h3, h4⟩
        | arr wr sz els =>
          obtain ⟨us, et, fr, rfl, h1, h2, h3, h4, h5, h6, h7, h8, h9, h10⟩ := this
          exact ⟨us, et, fr, rfl, by rw [wset_heap, if_neg (h.inj i id _ _ γ β hp2 hs hγ2 hβ (by simp) (by simp) hne)]; exact h1, h2, h3, h4, h5, h6, h7, h8, h9, h10⟩
        | map wr es => exact this.elim
      · exact ob
    own := fun i p γ hp hγ hg => by
      rw [wset_size]
      rcases split_ hp hγ with rfl | ⟨hne, hp2, hγ2⟩ | ⟨_, rfl, rfl⟩
      · exact absurd rfl hg
      · exact h.own i p γ hp2 hγ2 hg
      · rw [hb]; exact own
    inj := fun i j p q γ δ hp hq hγ hδ hgp hgq hne => by
      rcases split_ hp hγ with rfl | ⟨hni, hp2, hγ2⟩ | ⟨hi, rfl, rfl⟩
      · exact absurd rfl hgp
      · rcases split_ hq hδ with rfl | ⟨hnj, hq2, hδ2⟩ | ⟨hj, rfl, rfl⟩
        · exact absurd rfl hgq
        · exact h.inj i j p q γ δ hp2 hq2 hγ2 hδ2 hgp hgq hne
        · rw [hb]; exact h.inj i id p _ γ β hp2 hs hγ2 hβ hgp (by simp) hni
      · rcases split_ hq hδ with rfl | ⟨hnj, hq2, hδ2⟩ | ⟨hj, rfl, rfl⟩
        · exact absurd rfl hgq
        · rw [hb]; exact fun z => h.inj j id q _ δ β hq2 hs hδ2 hβ hgq (by simp) hnj z.symm
        · omega }

theorem flat_one {els : List (List V)} {vs : List Value} {sz : Nat} (f : Flat m sz els vs) (hl : ∀ e ∈ els, ∀ c ∈ e, leafV c = true) : ∀ v ∈ vs, v.oneCell' = true := by
  intro v hv
  obtain ⟨k, hk, rfl⟩ := List.mem_iff_getElem.1 hv
  rw [f.len] at hk
  have hz : 0 < sz := by
    rcases Nat.eq_zero_or_pos sz with q | q
    · subst q; simp at hk
    · exact q
  have h1 : k / sz < els.length := by rw [Nat.div_lt_iff_lt_mul hz]; exact hk
  have h2 : k % sz < (els[k / sz]).length := by rw [f.each _ (List.getElem_mem h1)]; exact Nat.mod_lt _ hz
  obtain ⟨x, hx, rx⟩ := f.rep (k / sz) (k % sz) _ _ (List.getElem?_eq_getElem h1) (List.getElem?_eq_getElem h2)
  have e1 : k / sz * sz + k % sz = k := by rw [Nat.mul_comm]; exact Nat.div_add_mod k sz
  rw [e1, List.getElem?_eq_getElem (by rw [f.len]; exact hk)] at hx
  obtain rfl := Option.some.inj hx
  exact leafV_one rx (hl _ (List.getElem_mem h1) _ (List.getElem_mem h2))

theorem appendG_sound (h : St w0 m0 N m ι e s a w) {t u ty el : TypeId} {i : TypeInfo} {z : Value} {du : TypeDesc} (ht : P.underlying t = some (.slice el)) (hu : P.underlying u = some du) (hni : ∀ k, du ≠ .int k) (hi : P.info? el = some i) (hz : i.zero = some z)
    (hzs : z.cells.size = i.size) {d : V} {dv y : Value} {new : List (List V)} {news : List Value} (rd : Rep m ι d dv) (f : (∀ e ∈ new, e.length = i.size) → Flat m i.size new news ∧ Src P w y new.length i.size news) (hf0 : new = [] → news = [] ∧ Src P w y 0 i.size [])
    (hk : appendG P i d new s K) : ∃ x w', (Builtin.append_ #[t, u] ty #[dv, y]).run P w = .ok x w' ∧ Lv w0 m0 N e a K x w' := by
  unfold appendG at hk
  split at hk
  · rename_i els
    cases hne : new with
    | nil =>
      rw [hne] at hk
      have hk : K (.row true els) s := hk
      obtain ⟨rfl, h0⟩ := hf0 hne
      cases rd with
      | row _ _ _ p cap sz' b off g hx1 hc1 hl1 hs1 ha1 hm1 hr1 =>
        exact ⟨_, _, run_same (P := P) ht hu hni hi h0 rfl hc1, _, s, m, ι, hk, .row _ _ _ p cap sz' b off g hx1 hc1 hl1 hs1 ha1 hm1 hr1, h⟩
    | cons q0 qs =>
      rw [hne] at hk
      obtain ⟨⟨h1⟩, ⟨h2⟩, ⟨h3⟩, hk⟩ := (show _ ∧ _ from hk)
      rw [← hne] at h1 h3 hk
      rw [litK_eq] at hk
      obtain ⟨fn, src⟩ := f h1
      obtain ⟨olds, p, cap, rfl, hc1, hx1, hl1, fo, srco, _⟩ := row_cells (w := w) rd h.mok h2
      obtain rfl := hx1 rfl
      have hpos : 0 < new.length := by rw [hne]; simp
      obtain ⟨c, rest, hc, hrest, hrun⟩ := run_grow (P := P) (ty := ty) ht hu hni hi hz srco.cells src (by omega) h3
      have hlen : (els ++ new).length = els.length + new.length := by simp
      refine ⟨_, _, hrun, _, _, m, _, hk, ?_, ((h.drew (w.drawn + 1)).newArr (fo.append fn) (c := c) (rest := rest) (by rw [hlen, hrest, hzs]) (by rw [hlen]; exact hc) (by
        rw [hlen]
        have : els.length + new.length ≤ (els.length + new.length) * (i.bytes + 1) := Nat.le_mul_of_pos_right _ (by omega)
        omega) true el)⟩
      refine .sl _ s.length 0 _ _ c ⟨w.heap.size, c, i.size, (els ++ new).length⟩ (by rw [← h.len]; simp) hc (by simp) (by simp) (by
        have : els.length + new.length ≤ (els.length + new.length) * (i.bytes + 1) := Nat.le_mul_of_pos_right _ (by omega)
        omega) (fun _ => by simp)
  · rename_i id off len
    rw [at?_eq] at hk
    split at hk
    · rename_i wr sz els hs
      split at hk
      · rename_i hq1 hq2
        have hq1 := Nat.eq_of_beq_eq_true hq1
        have hq2 := Nat.eq_of_beq_eq_true hq2
        subst hq1
        subst hq2
        cases rd with
        | sl _ _ _ _ p cap β hβ hl hc hn hb ha =>
          cases hne : new with
          | nil =>
            rw [hne] at hk
            have hk : K (.sl id 0 len) s := hk
            obtain ⟨rfl, h0⟩ := hf0 hne
            exact ⟨_, _, run_same (P := P) ht hu hni hi h0 rfl hl, _, s, m, ι, hk, .sl _ _ _ _ p cap β hβ hl hc hn hb ha, h⟩
          | cons q0 qs =>
            rw [hne] at hk
            obtain ⟨⟨hlen⟩, ⟨h1⟩, ⟨h4⟩, ⟨h3⟩, hk3⟩ := (show _ ∧ _ from hk)
            clear hk
            rw [← hne] at h1 h3 h4 hk3
            rw [litK_eq, setAt_eq] at hk3
            obtain ⟨fn, src⟩ := f h1
            have hpos : 0 < new.length := by rw [hne]; simp
            obtain ⟨vs, et, fr, hsz, hh, hvl, hcap, hnn, hel, hszs, hcs, hfr, hml, hmn⟩ := h.obj id _ β hs hβ
            subst hlen
            have hle : els.length * i.size ≤ vs.length := by rw [hvl]; exact Nat.mul_le_mul_right _ hcap
            have hlen : (els ++ new).length = els.length + new.length := by simp
            have hbig : els.length + new.length ≤ 9223372036854775807 := by
              have : els.length + new.length ≤ (els.length + new.length) * (i.bytes + 1) := Nat.le_mul_of_pos_right _ (by omega)
              omega
            have own := h.own id _ β hs hβ (by simp)
            have fo : Flat m i.size els (vs.take (els.length * i.size)) := by
              have := Flat.part hcs hszs hle 0 els.length (by omega)
              simpa using this
            by_cases hroom : els.length + new.length ≤ cap
            · obtain rfl := ha (by omega)
              have hfit : els.length * i.size + news.length ≤ vs.length := by
                rw [fn.len, hvl, ← Nat.add_mul]
                exact Nat.mul_le_mul_right _ (by omega)
              have hrun := run_room (P := P) (ty := ty) (off := 0) (sCap := cap) ht hu hni hi hh hfr src (flat_one fn h4) hroom (by omega)
              simp only [Nat.zero_add] at hrun
              simp only [Nat.zero_mul]
              refine ⟨_, _, hrun, _, _, m, ι ++ [⟨β.blk, β.cap, β.sz, (els ++ new).length⟩], hk3, ?_, ?_⟩
              · refine .sl _ s.length 0 _ _ cap ⟨β.blk, β.cap, β.sz, (els ++ new).length⟩ (by rw [← h.len]; simp) hroom hc (by simp) hbig (fun _ => by simp)
              · have hv : ∀ k, k < els.length * i.size → (vs.take (els.length * i.size) ++ news ++ vs.drop (els.length * i.size + news.length))[k]? = vs[k]? := by
                  intro k hk
                  rw [List.append_assoc, List.getElem?_append_left (by rw [List.length_take]; omega), List.getElem?_take, if_pos hk]
                have hvl2 : (vs.take (els.length * i.size) ++ news ++ vs.drop (els.length * i.size + news.length)).length = vs.length := by
                  simp only [List.length_append, List.length_take, List.length_drop]
                  omega
                refine h.extend (β' := ⟨β.blk, β.cap, β.sz, (els ++ new).length⟩) hs hβ hh hv rfl
                  ⟨_, et, fr, hsz, by rw [wset_heap, if_pos rfl, if_pos own.2], by rw [hvl2]; exact hvl, (show (els ++ new).length ≤ β.cap by rw [hlen]; omega), rfl, by rw [hlen]; exact hbig, fun el he => (List.mem_append.1 he).elim (hszs el) (h1 el), fun i' j el' c hi' hj => ?_, fun k hk => hfr k (hvl2 ▸ hk),
                    fun o ho => hml o (by rw [hlen, Nat.add_mul] at ho; omega), hmn⟩
                obtain ⟨x, hx, rx⟩ := (fo.append fn).rep i' j el' c hi' hj
                exact ⟨x, by rw [List.getElem?_append_left (List.getElem?_eq_some_iff.1 hx).1]; exact hx, rx⟩
            · have hold : Src P w (.slice p els.length cap) els.length i.size (vs.take (els.length * i.size)) := by
                by_cases hc0 : cap = 0
                · have : els.length = 0 := by omega
                  have he : els = [] := List.eq_nil_of_length_eq_zero this
                  subst he
                  simpa using src_none (P := P) (w := w) (a := p) (cap := cap) (sz := i.size)
                · obtain rfl := ha hc0
                  refine src_slice fo.len fun j y hj => ?_
                  rw [List.getElem?_take] at hj
                  split at hj
                  · rw [cell_heap hh, ← hj]
                    congr 1
                    omega
                  · cases hj
              obtain ⟨c, rest, hc2, hrest, hrun⟩ := run_grow (P := P) (ty := ty) ht hu hni hi hz hold.cells src (by omega) h3
              have h' := ((h.drew (w.drawn + 1)).lose id).newArr (fo.append fn) (c := c) (rest := rest) (by rw [hlen, hrest, hzs]) (by rw [hlen]; exact hc2) (by rw [hlen]; exact hbig) wr el
              refine ⟨_, _, hrun, _, _, m, _, hk3, ?_, h'⟩
              refine .sl _ s.length 0 _ _ c ⟨w.heap.size, c, i.size, (els ++ new).length⟩ (by rw [← h.len]; simp) hc2 (by simp) (by simp) hbig (fun _ => by simp)
      · exact hk.elim
    · exact hk.elim
  · exact hk.elim
end
end Go.Proofs.Ytkkfclpodgagdaa.Ab
