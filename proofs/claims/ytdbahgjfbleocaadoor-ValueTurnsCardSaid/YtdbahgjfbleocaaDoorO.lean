/- Small words of this session: arguments opened, whatever they are made of. -/
import Derived.Test.YtdbahgjfbleocaaDoorX
import Derived.Test.YtdbahgjfbleocaaDoorRows
import Derived.ChangeArms
import Derived.Deep.Slices
import Derived.SizedLaws
namespace Go.Proofs.YtdbahgjfbleocaaDoor.X
open Go.RowKit Go.Proofs.YtdbahgjfbleocaaDoorW.PrintWords
set_option linter.unusedVariables false
set_option linter.unusedSimpArgs false

/-- what reads at type t is told by kind d, is good, and of no greater bulk -/
def Opens (P : Program) (w : World) (t : TypeId) {α : Type} (d : Kd α) (good : α → Prop) (bk : α → Nat) : Prop :=
  ∀ (H : Type) (enc : TypeId × Value → H) (spare : Nat → Bool) (held : Bool) (fuel : Nat) (cs : List Value) (x : DataW H × List MemPlace), DataW.trod enc P w 0 spare held fuel t cs = some x → (∀ n ∈ x.1.weights P t, n ≤ reachBytes) → ∃ a, d.K w a cs ∧ good a ∧ bk a ≤ Rows.uptoBulk x.1
section
variable {P : Program} {w : World} {t e : TypeId} {α β : Type} {d : Kd α} {d' : Kd β} {good : α → Prop} {good' : β → Prop} {bk : α → Nat} {bk' : β → Nat}
theorem opens_int {k : IntKind} (hu : P.underlying t = some (.int k)) : Opens P w t (Kd.int k) (fun n => (Lit.int k n).wf = true) (fun _ => 1) := by
  intro H enc spare held fuel cs x h hw
  obtain ⟨n, rfl, rfl, hn⟩ := DataW.trod_int hu h
  exact ⟨n, rfl, hn, by simp [Rows.uptoBulk]⟩
theorem opens_string (hu : P.underlying t = some .string) : Opens P w t Kd.string (fun s => s.size ≤ 140737488351232) (fun s => s.size + 1) := by
  intro H enc spare held fuel cs x h hw
  obtain ⟨s, rfl, rfl, _⟩ := DataW.trod_string hu h
  refine ⟨s, rfl, ?_, by rw [Rows.uptoBulk, Array.length_toList]; exact Nat.le_refl _⟩
  have := hw s.data.toList.length (by simp [DataW.weights])
  rw [Array.length_toList] at this
  exact this
/-- the fields from place o on -/
def OpensS (P : Program) (w : World) (fs : List Field) (total o : Nat) {α : Type} (d : Kd α) (good : α → Prop) (bk : α → Nat) : Prop :=
  ∀ (H : Type) (enc : TypeId × Value → H) (spare : Nat → Bool) (held : Bool) (n : Nat) (cs : List Value) (ys : List (DataW H × List MemPlace)), cs.length = total → ys.length = fs.length →
    (∀ (j : Nat) (f : Field), fs[j]? = some f → DataW.trod enc P w 0 spare held n f.type ((cs.drop f.offset).take (P.cellsOf f.type)) = ys[j]?) → (∀ m ∈ DataW.weightsEach P (fs.map (·.type)) (ys.map (·.1)), m ≤ reachBytes) → ∃ a, d.K w a (cs.drop o) ∧ good a ∧ bk a ≤ Rows.uptoBulkAll (ys.map (·.1))
theorem opensS_one {f : Field} {total o : Nat} (h : Opens P w f.type d good bk) (ho : f.offset = o) (hk : P.cellsOf f.type = total - o) : OpensS P w [f] total o d good bk := by
  intro H enc spare held n cs ys hcs hy hf hw
  match ys, hy with
  | [y], _ =>
    have h1 := hf 0 f rfl
    rw [ho, hk, List.take_of_length_le (by rw [List.length_drop]; omega)] at h1
    obtain ⟨a, ka, ga, ba⟩ := h H enc spare held n _ y (by simpa using h1) (fun m hm => hw m (by simp [DataW.weightsEach, hm]))
    exact ⟨a, ka, ga, by simp [Rows.uptoBulkAll]; exact ba⟩
theorem opensS_cons {f : Field} {fs : List Field} {total o k : Nat} (h : Opens P w f.type d good bk) (ho : f.offset = o) (hk : P.cellsOf f.type = k) (hr : OpensS P w fs total (o + k) d' good' bk') : OpensS P w (f :: fs) total o (Kd.pair d d') (fun x => good x.1 ∧ good' x.2) (fun x => bk x.1 + bk' x.2) := by
  intro H enc spare held n cs ys hcs hy hf hw
  match ys, hy with
  | y :: ys, hy =>
    have h1 := hf 0 f rfl
    rw [ho, hk] at h1
    obtain ⟨a, ka, ga, ba⟩ := h H enc spare held n _ y (by simpa using h1) (fun m hm => hw m (by simp only [List.map_cons, DataW.weightsEach, List.mem_append]; exact .inl hm))
    obtain ⟨b, kb, gb, bb⟩ := hr H enc spare held n cs ys hcs (by simpa using hy) (fun j f hj => by simpa using hf (j + 1) f (by simpa using hj)) (fun m hm => hw m (by simp only [List.map_cons, DataW.weightsEach, List.mem_append]; exact .inr hm))
    refine ⟨(a, b), ⟨_, _, ?_, ka, kb⟩, ⟨ga, gb⟩, by simp only [List.map_cons, Rows.uptoBulkAll]; omega⟩
    rw [← List.drop_drop, List.take_append_drop]
theorem opens_struct {fs : Array Field} (hu : P.underlying t = some (.struct fs)) {total : Nat} (hc : P.cellsOf t = total) (h : OpensS P w fs.toList total 0 d good bk) (f : β → α) (g : α → β) (hfg : ∀ a, f (g a) = a) : Opens P w t (Kd.iso d f) (fun b => good (f b)) (fun b => bk (f b) + 1) := by
  intro H enc spare held fuel cs x hx hw
  obtain ⟨ys, n, _, rfl, hl, hyl, hf⟩ := DataW.trod_struct hu hx
  obtain ⟨a, ka, ga, ba⟩ := h H enc spare held n cs ys (hl.trans hc) (by simpa using hyl) (fun j f hj => hf j f (by simpa using hj)) (fun m hm => hw m (by simpa [DataW.weights, hu] using hm))
  refine ⟨g a, ?_, by show good (f (g a)); rw [hfg]; exact ga, by show bk (f (g a)) + 1 ≤ _; rw [hfg, Rows.uptoBulk]; omega⟩
  show d.K w (f (g a)) cs
  rw [hfg]
  simpa using ka
end
end Go.Proofs.YtdbahgjfbleocaaDoor.X
