/- Small words of this session: arguments opened, whatever they are made of. -/
import Derived.Test.YtbpckmbepgojfaaDoorX
import Derived.Test.YtbpckmbepgojfaaDoorRows
import Derived.ChangeArms
import Derived.Deep.Slices
import Derived.SizedLaws
namespace Go.Proofs.YtbpckmbepgojfaaDoor.X
open Go.RowKit Go.Proofs.YtbpckmbepgojfaaDoorW.PrintWords
set_option linter.unusedVariables false
set_option linter.unusedSimpArgs false

/-- what reads at type t is told by kind d, is good, and of no greater bulk -/
def Opens (P : Program) (w : World) (t : TypeId) {α : Type} (d : Kd α) (good : α → Prop) (bk : α → Nat) : Prop :=
  ∀ (H : Type) (enc : TypeId × Value → H) (spare : Nat → Bool) (held : Bool) (fuel : Nat) (cs : List Value) (x : DataW H × List MemPlace), DataW.trod enc P w 0 spare held fuel t cs = some x → (∀ n ∈ x.1.weights P t, n ≤ reachBytes) → ∃ a, d.K w a cs ∧ good a ∧ bk a ≤ Rows.uptoBulk x.1
section
variable {P : Program} {w : World} {t e : TypeId} {α β : Type} {d : Kd α} {d' : Kd β} {good : α → Prop} {good' : β → Prop} {bk : α → Nat} {bk' : β → Nat}
theorem opens_int {k : IntKind} (hu : P.underlying t = some (.int k)) : Opens P w t (Kd.int k) (fun n => (Lit.int k n).wf = true) (fun _ => 1) := by
  intro H enc spare held fuel cs x h hw
  obtain ⟨n, rfl, rfl, hn⟩ := DataW.trod_int hu h
  exact ⟨n, rfl, hn, by simp [Rows.uptoBulk]⟩
theorem opens_bool (hu : P.underlying t = some .bool) : Opens P w t Kd.bool (fun _ => True) (fun _ => 1) := by
  intro H enc spare held fuel cs x h hw
  obtain ⟨b, rfl, rfl⟩ := DataW.trod_bool hu h
  exact ⟨b, rfl, trivial, by simp [Rows.uptoBulk]⟩
theorem opens_string (hu : P.underlying t = some .string) : Opens P w t Kd.string (fun s => s.size ≤ 140737488351232) (fun s => s.size + 1) := by
  intro H enc spare held fuel cs x h hw
  obtain ⟨s, rfl, rfl, _⟩ := DataW.trod_string hu h
  refine ⟨s, rfl, ?_, by rw [Rows.uptoBulk, Array.length_toList]; exact Nat.le_refl _⟩
  have := hw s.data.toList.length (by simp [DataW.weights])
  rw [Array.length_toList] at this
  exact this
theorem weights_mem_all {H : Type} {P : Program} {e : TypeId} : ∀ {ds : List (DataW H)} {j : Nat} {d : DataW H}, ds[j]? = some d → ∀ n ∈ d.weights P e, n ∈ DataW.weightsAll P e ds
  | [], j, d, hd, n, hn => by simp at hd
  | d0 :: ds, 0, d, hd, n, hn => by
    simp only [List.getElem?_cons_zero, Option.some.injEq] at hd
    subst hd
    simp only [DataW.weightsAll, List.mem_append]
    exact .inl hn
  | d0 :: ds, j + 1, d, hd, n, hn => by
    simp only [List.getElem?_cons_succ] at hd
    simp only [DataW.weightsAll, List.mem_append]
    exact .inr (weights_mem_all hd n hn)
theorem opens_list (H : Type) (enc : TypeId × Value → H) (spare : Nat → Bool) (held : Bool) (n : Nat) (ho : Opens P w e d good bk) (f : Nat → Option (List Value)) : ∀ (len : Nat) (elems : List (DataW H × List MemPlace)), elems.length = len →
    (∀ i, i < len → (f i).bind (DataW.trod enc P w 0 spare held n e) = elems[i]?) → (∀ m ∈ DataW.weightsAll P e (elems.map (·.1)), m ≤ reachBytes) →
    ∃ xs : List α, xs.length = len ∧ (∀ x ∈ xs, good x) ∧ (xs.map bk).sum ≤ Rows.uptoBulkAll (elems.map (·.1)) ∧ ∀ (j : Nat) (p : α), xs[j]? = some p → ∃ c, f j = some c ∧ d.K w p c := by
  intro len
  induction len with
  | zero =>
    intro elems _ _ _
    exact ⟨[], rfl, (fun x h => absurd h List.not_mem_nil), by simp, (fun j p h => by simp at h)⟩
  | succ len ih =>
    intro elems hl hf hw
    have hlt : len < elems.length := by omega
    obtain ⟨xs, h1, h2, hbk, h3⟩ := ih (elems.take len) (by simp; omega) (fun i hi => by rw [hf i (by omega), List.getElem?_take_of_lt hi]) (fun m hm => hw m (by
      have e1 : elems.map (·.1) = (elems.take len).map (·.1) ++ [(elems[len]'hlt).1] := by
        rw [← List.map_singleton, ← List.map_append, ← List.take_succ_eq_append_getElem hlt, List.take_of_length_le (by omega)]
      have e2 : ∀ (a b : List (DataW H)), DataW.weightsAll P e (a ++ b) = DataW.weightsAll P e a ++ DataW.weightsAll P e b := by
        intro a b
        induction a with
        | nil => simp [DataW.weightsAll]
        | cons x a iha => simp [DataW.weightsAll, iha]
      rw [e1, e2]
      exact List.mem_append_left _ hm))
    have h4 := hf len (by omega)
    rw [List.getElem?_eq_getElem hlt] at h4
    obtain ⟨c, hc, ht⟩ := Option.bind_eq_some_iff.1 h4
    obtain ⟨a, ka, ga, ba⟩ := ho H enc spare held n c _ ht (fun m hm => hw m (weights_mem_all (j := len) (by rw [List.getElem?_map, List.getElem?_eq_getElem hlt]; rfl) m hm))
    have e3 : elems.map (·.1) = (elems.take len).map (·.1) ++ [(elems[len]'hlt).1] := by
      rw [← List.map_singleton, ← List.map_append, ← List.take_succ_eq_append_getElem hlt, List.take_of_length_le (by omega)]
    have e4 : ∀ (a b : List (DataW H)), Rows.uptoBulkAll (a ++ b) = Rows.uptoBulkAll a + Rows.uptoBulkAll b := by
      intro a b
      induction a with
      | nil => simp [Rows.uptoBulkAll]
      | cons x a iha => simp [Rows.uptoBulkAll, iha, Nat.add_assoc]
    refine ⟨xs ++ [a], by simp [h1], fun x hx => ?_, by
      rw [e3, e4, List.map_append, List.sum_append]
      have e5 : ([a].map bk).sum = bk a := by simp
      have e6 : Rows.uptoBulkAll [(elems[len]'hlt).1] = Rows.uptoBulk (elems[len]'hlt).1 := by simp [Rows.uptoBulkAll]
      rw [e5, e6]
      exact Nat.add_le_add hbk ba, fun j p hj => ?_⟩
    · rcases List.mem_append.1 hx with hx | hx
      · exact h2 x hx
      · rw [List.mem_singleton.1 hx]; exact ga
    · rcases Nat.lt_or_ge j xs.length with hj' | hj'
      · rw [List.getElem?_append_left hj'] at hj
        exact h3 j p hj
      · rw [List.getElem?_append_right hj'] at hj
        have : j - xs.length = 0 := by
          rcases Nat.eq_zero_or_pos (j - xs.length) with h0 | h0
          · exact h0
          · rw [List.getElem?_eq_none (by simp; omega)] at hj; cases hj
        rw [this] at hj
        simp only [List.getElem?_cons_zero, Option.some.injEq] at hj
        subst hj
        have : j = len := by omega
        subst this
        exact ⟨c, hc, ka⟩
theorem opens_slice (hu : P.underlying t = some (.slice e)) (hc : P.cellsOf e = d.sz) (ho : Opens P w e d good bk) (B : Nat) (hB : P.bytesOf e = B) : Opens P w t (Kd.slice e d) (fun l => l.length * B ≤ 140737488351232 ∧ ∀ x ∈ l, good x) (fun l => (l.map bk).sum + 1) := by
  intro H enc spare held fuel cs x h hw
  rcases DataW.trod_slice hu h with ⟨rfl, rfl⟩ | ⟨a, len, cap, elems, rest, n, _, rfl, rfl, hb, hl, hm, hlen, hel, _, _⟩
  · exact ⟨[], ⟨none, 0, rfl, Nat.le_refl _, rfl, Nat.zero_le _, fun h => absurd h (Nat.lt_irrefl 0)⟩, ⟨by simp, fun x h => absurd h List.not_mem_nil⟩, by simp [Rows.uptoBulk]⟩
  · obtain ⟨xs, h1, h2, hbk, h3⟩ := opens_list H enc spare held n ho (fun i => w.cells? 0 (a.add (i * P.cellsOf e)) (P.cellsOf e)) len elems hlen hel (fun m hm => hw m (by
      simp only [DataW.weights, hu, List.mem_cons, List.mem_append]
      exact .inr (.inl hm)))
    have hz := hw ((elems.length + rest.length) * B) (by
      simp only [DataW.weights, hu, List.mem_cons, List.length_map, hB, true_or])
    have hz2 : xs.length * B ≤ 140737488351232 := by
      have e1 : xs.length * B ≤ (elems.length + rest.length) * B := Nat.mul_le_mul_right _ (by omega)
      exact Nat.le_trans e1 hz
    refine ⟨xs, ⟨some a, cap, by rw [h1], by omega, rfl, ?_, fun _ => ⟨a, rfl, fun j p hj => ?_⟩⟩, ⟨hz2, h2⟩, by rw [Rows.uptoBulk]; show (xs.map bk).sum + 1 ≤ _; omega⟩
    · have : maxLen = 9223372036854775807 := rfl
      omega
    · obtain ⟨c, hc2, hk⟩ := h3 j p hj
      obtain ⟨_, hcl, hcell⟩ := World.cells?_some hc2
      refine ⟨c, by rw [hcl, hc], hk, fun i u hi => ?_⟩
      have hil : i < P.cellsOf e := by
        rcases Nat.lt_or_ge i c.length with h' | h'
        · omega
        · rw [List.getElem?_eq_none h'] at hi; cases hi
      have := hcell i hil
      rw [hi, hc] at this
      rw [← this, Go.Deep.add_add]
/-- the fields from place o on -/
def OpensS (P : Program) (w : World) (fs : List Field) (total o : Nat) {α : Type} (d : Kd α) (good : α → Prop) (bk : α → Nat) : Prop :=
  ∀ (H : Type) (enc : TypeId × Value → H) (spare : Nat → Bool) (held : Bool) (n : Nat) (cs : List Value) (ys : List (DataW H × List MemPlace)), cs.length = total → ys.length = fs.length →
    (∀ (j : Nat) (f : Field), fs[j]? = some f → DataW.trod enc P w 0 spare held n f.type ((cs.drop f.offset).take (P.cellsOf f.type)) = ys[j]?) → (∀ m ∈ DataW.weightsEach P (fs.map (·.type)) (ys.map (·.1)), m ≤ reachBytes) → ∃ a, d.K w a (cs.drop o) ∧ good a ∧ bk a ≤ Rows.uptoBulkAll (ys.map (·.1))
theorem opensS_one {f : Field} {total o : Nat} (h : Opens P w f.type d good bk) (ho : f.offset = o) (hk : P.cellsOf f.type = total - o) : OpensS P w [f] total o d good bk := by
  intro H enc spare held n cs ys hcs hy hf hw
  match ys, hy with
  | [y], _ =>
    have h1 := hf 0 f rfl
    rw [ho, hk, List.take_of_length_le (by rw [List.length_drop]; omega)] at h1
    obtain ⟨a, ka, ga, ba⟩ := h H enc spare held n _ y (by simpa using h1) (fun m hm => hw m (by simp [DataW.weightsEach, hm]))
    exact ⟨a, ka, ga, by simp [Rows.uptoBulkAll]; exact ba⟩
theorem opensS_cons {f : Field} {fs : List Field} {total o k : Nat} (h : Opens P w f.type d good bk) (ho : f.offset = o) (hk : P.cellsOf f.type = k) (hr : OpensS P w fs total (o + k) d' good' bk') : OpensS P w (f :: fs) total o (Kd.pair d d') (fun x => good x.1 ∧ good' x.2) (fun x => bk x.1 + bk' x.2) := by
  intro H enc spare held n cs ys hcs hy hf hw
  match ys, hy with
  | y :: ys, hy =>
    have h1 := hf 0 f rfl
    rw [ho, hk] at h1
    obtain ⟨a, ka, ga, ba⟩ := h H enc spare held n _ y (by simpa using h1) (fun m hm => hw m (by simp only [List.map_cons, DataW.weightsEach, List.mem_append]; exact .inl hm))
    obtain ⟨b, kb, gb, bb⟩ := hr H enc spare held n cs ys hcs (by simpa using hy) (fun j f hj => by simpa using hf (j + 1) f (by simpa using hj)) (fun m hm => hw m (by simp only [List.map_cons, DataW.weightsEach, List.mem_append]; exact .inr hm))
    refine ⟨(a, b), ⟨_, _, ?_, ka, kb⟩, ⟨ga, gb⟩, by simp only [List.map_cons, Rows.uptoBulkAll]; omega⟩
    rw [← List.drop_drop, List.take_append_drop]
theorem opens_struct {fs : Array Field} (hu : P.underlying t = some (.struct fs)) {total : Nat} (hc : P.cellsOf t = total) (h : OpensS P w fs.toList total 0 d good bk) (f : β → α) (g : α → β) (hfg : ∀ a, f (g a) = a) : Opens P w t (Kd.iso d f) (fun b => good (f b)) (fun b => bk (f b) + 1) := by
  intro H enc spare held fuel cs x hx hw
  obtain ⟨ys, n, _, rfl, hl, hyl, hf⟩ := DataW.trod_struct hu hx
  obtain ⟨a, ka, ga, ba⟩ := h H enc spare held n cs ys (hl.trans hc) (by simpa using hyl) (fun j f hj => hf j f (by simpa using hj)) (fun m hm => hw m (by simpa [DataW.weights, hu] using hm))
  refine ⟨g a, ?_, by show good (f (g a)); rw [hfg]; exact ga, by show bk (f (g a)) + 1 ≤ _; rw [hfg, Rows.uptoBulk]; omega⟩
  show d.K w (f (g a)) cs
  rw [hfg]
  simpa using ka
end
end Go.Proofs.YtbpckmbepgojfaaDoor.X
