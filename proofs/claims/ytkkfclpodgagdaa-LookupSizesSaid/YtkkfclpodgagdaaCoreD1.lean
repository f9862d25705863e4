/- A region that draws its order: what an operation gives does not hang on what it is asked for. -/
import Derived.Test.YtkkfclpodgagdaaCoreP
namespace Go.Proofs.Ytkkfclpodgagdaa.Ab
open Go.RowKit
set_option linter.unusedVariables false
set_option linter.unusedSimpArgs false

section
variable {P : Program} {e : Env} {s : List O} {o : Oper} {K : V → List O → Prop}
theorem binK_self {op : BinOp} {t : TypeId} {x y : V} {K : V → Prop} (h : binK P op t x y K) : binK P op t x y fun v => K v ∧ binK P op t x y fun u => u = v := by
  unfold binK at h ⊢
  split at h
  · split at h
    · exact ⟨h.1, h.2, h.1, (by first | trivial | exact rfl)⟩
    · exact ⟨h.1, h.2, h.1, (by first | trivial | exact rfl)⟩
    · split at h
      · exact h.elim
      · rename_i hkj
        simp only [hkj]
        split at h
        · exact ⟨h, (by first | trivial | exact rfl)⟩
        · exact ⟨h, (by first | trivial | exact rfl)⟩
        · exact ⟨h, (by first | trivial | exact rfl)⟩
        · exact ⟨h.1, h.2, h.1, (by first | trivial | exact rfl)⟩
        · exact ⟨h.1, h.2, h.1, (by first | trivial | exact rfl)⟩
        · split at h
          · rename_i r hr
            simp only [hr]
            exact ⟨h, (by first | trivial | exact rfl)⟩
          · rename_i hr
            split at h
            · rename_i c hc
              simp only [hr, hc]
              exact ⟨h, (by first | trivial | exact rfl)⟩
            · exact h.elim
  · split at h
    · exact ⟨h.1, h.2, h.1, (by first | trivial | exact rfl)⟩
    · split at h
      · rename_i c hc
        simp only [hc]
        exact ⟨h, (by first | trivial | exact rfl)⟩
      · exact h.elim
  · split at h
    · rename_i hu
      split at h
      · rename_i c hc
        simp only [hu, hc]
        exact ⟨h, (by first | trivial | exact rfl)⟩
      · exact h.elim
    · exact h.elim
  · split at h
    · rename_i fs hu
      split at h
      · rename_i c hc
        split at h
        · rename_i r hr
          simp only [hu, hc, hr]
          exact ⟨h, (by first | trivial | exact rfl)⟩
        · exact h.elim
      · exact h.elim
    · exact h.elim
  · split at h
    · rename_i d hu
      split at h
      · rename_i c hc
        split at h
        · rename_i r hr
          simp only [hu, hc, hr]
          exact ⟨h, (by first | trivial | exact rfl)⟩
        · exact h.elim
      · exact h.elim
    · exact h.elim
/-- The operations that may stand in a region that draws its order. -/
def drawable : Op → Bool
  | .move _ => true
  | .assign _ => true
  | .pick _ _ _ => true
  | .alloc _ => true
  | .box _ _ => true
  | .build _ _ => true
  | .buildSlice _ _ _ => true
  | .load _ _ => true
  | .store _ _ _ => true
  | .nilCheck _ => true
  | .binOp _ _ _ _ _ => true
  | .unOp _ _ _ => true
  | .convert _ _ _ => true
  | .makeFunc _ _ _ => true
  | .slice _ _ _ _ none => true
  | .fieldAddr _ _ _ => true
  | .field _ _ _ => true
  | .indexAddr _ _ _ => true
  | .index _ _ _ => true
  | .extract _ _ => true
  | .call { callee := .value _, .. } => true
  | .call { callee := .builtin .len, .. } => true
  | .call { callee := .builtin .min, .. } => true
  | .call { callee := .builtin .max, .. } => true
  | _ => false
theorem unK_self {op : UnOp} {x : V} {K : V → Prop} (h : unK op x K) : unK op x fun v => K v ∧ unK op x fun u => u = v := by
  unfold unK at h ⊢
  split at h
  · exact ⟨h, (by first | trivial | exact rfl)⟩
  · exact ⟨h, (by first | trivial | exact rfl)⟩
  · exact h.elim
theorem csplit_self {b : Bool} {v w : V} {K : V → List O → Prop} (h : csplit b (K v s) (K w s)) : csplit b (K v s ∧ csplit b (v = v ∧ s = s) (w = v ∧ s = s)) (K w s ∧ csplit b (v = w ∧ s = s) (w = w ∧ s = s)) := by
  cases b
  · exact ⟨h, rfl, rfl⟩
  · exact ⟨h, rfl, rfl⟩
def isLow (x : Option V) (l : Int) : Prop := (x = none ∧ l = 0) ∨ ∃ k, x = some (.int k l)
def isHigh (n : Int) (x : Option V) (l : Int) : Prop := (x = none ∧ l = n) ∨ ∃ k, x = some (.int k l)
theorem low_iff {x : Option V} {C : Int → Prop} : lowK x C ↔ ∃ l, isLow x l ∧ C l := by
  unfold lowK isLow
  constructor
  · intro h
    split at h
    · exact ⟨0, .inl ⟨rfl, rfl⟩, h⟩
    · exact ⟨_, .inr ⟨_, rfl⟩, h⟩
    · exact h.elim
  · rintro ⟨l, ⟨rfl, rfl⟩ | ⟨k, rfl⟩, h⟩
    · exact h
    · exact h
theorem high_iff {n : Int} {x : Option V} {C : Int → Prop} : highK n x C ↔ ∃ l, isHigh n x l ∧ C l := by
  unfold highK isHigh
  constructor
  · intro h
    split at h
    · exact ⟨n, .inl ⟨rfl, rfl⟩, h⟩
    · exact ⟨_, .inr ⟨_, rfl⟩, h⟩
    · exact h.elim
  · rintro ⟨l, ⟨rfl, rfl⟩ | ⟨k, rfl⟩, h⟩
    · exact h
    · exact h
theorem sliceK_self {t : TypeId} {x : V} {lo hi : Option V} {K : V → Prop} (h : sliceK P t x lo hi none s K) : sliceK P t x lo hi none s fun v => K v ∧ sliceK P t x lo hi none s fun u => u = v := by
  unfold sliceK at h ⊢
  simp only [low_iff, high_iff] at h ⊢
  split at h
  · obtain ⟨l, hl, r, hr, a, b⟩ := h
    exact ⟨l, hl, r, hr, a, b, l, hl, r, hr, a, rfl⟩
  · split at h
    · rename_i z hz
      simp only [hz]
      obtain ⟨l, hl, r, hr, a, b, c⟩ := h
      exact ⟨l, hl, r, hr, a, b, c, l, hl, r, hr, a, b, rfl⟩
    · exact h.elim
  · split at h
    · rename_i hs hz
      simp only [hs, hz]
      split at h
      · rename_i hq
        simp only [hq]
        obtain ⟨l, hl, r, hr, a, b⟩ := h
        exact ⟨l, hl, r, hr, a, b, l, hl, r, hr, a, rfl⟩
      · exact h.elim
    · exact h.elim
  · exact h.elim
theorem lenK_self {t : TypeId} {x : V} {K : V → Prop} (h : lenK P t x s K) : lenK P t x s fun v => K v ∧ lenK P t x s fun u => u = v := by
  unfold lenK at h ⊢
  split at h
  · split at h
    · exact fun q => ⟨h q, fun _ => rfl⟩
    · exact h.elim
  · split at h
    · exact fun q => ⟨h q, fun _ => rfl⟩
    · exact fun q => ⟨h q, fun _ => rfl⟩
    · exact h.elim
  · exact ⟨h.1, h.2, h.1, rfl⟩
  · split at h
    · exact ⟨h, rfl⟩
    · split at h
      · rename_i h2; simp only [h2]; exact fun q => ⟨h q, fun _ => (by first | trivial | exact rfl)⟩
      · exact h.elim
    · exact h.elim
  · exact h.elim
theorem len_self {ts : Array TypeId} {l : List V} (h : builtinK P .len ts l s K) : builtinK P .len ts l s fun v s' => K v s' ∧ builtinK P .len ts l s fun u t => u = v ∧ t = s' := by
  match l, h with
  | [x], h =>
    simp only [builtinK] at h ⊢
    split at h
    · rename_i t ht
      have := lenK_self h
      simpa [ht] using this
    · exact h.elim
  | [], h => exact h.elim
  | _ :: _ :: _, h => exact h.elim
theorem max_self {ts : Array TypeId} {l : List V} (h : builtinK P .max ts l s K) : builtinK P .max ts l s fun v s' => K v s' ∧ builtinK P .max ts l s fun u t => u = v ∧ t = s' := by
  unfold builtinK at h ⊢
  split at h <;> first
    | exact h.elim
    | (rename_i hb; cases hb; done)
    | (split at h
       · rename_i h1; simp only [h1]; exact ⟨h, (by first | trivial | exact rfl), (by first | trivial | exact rfl)⟩
       · exact h.elim)
theorem min_self {ts : Array TypeId} {l : List V} (h : builtinK P .min ts l s K) : builtinK P .min ts l s fun v s' => K v s' ∧ builtinK P .min ts l s fun u t => u = v ∧ t = s' := by
  unfold builtinK at h ⊢
  split at h <;> first
    | exact h.elim
    | (rename_i hb; cases hb; done)
    | (split at h
       · rename_i h1; simp only [h1]; exact ⟨h, (by first | trivial | exact rfl), (by first | trivial | exact rfl)⟩
       · exact h.elim)
theorem convK_self {t u : TypeId} {x : V} (h : convK P t u x s K) : convK P t u x s fun v s' => K v s' ∧ convK P t u x s fun a b => a = v ∧ b = s' := by
  unfold convK at h ⊢
  split at h
  · rename_i h1 h2; simp only [h1, h2]; exact ⟨h, (by first | trivial | exact rfl), (by first | trivial | exact rfl)⟩
  · rename_i h1 h2; simp only [h1, h2]; exact ⟨h, (by first | trivial | exact rfl), (by first | trivial | exact rfl)⟩
  · rename_i h1 h2 h3
    simp only [h1, h2]
    split at h
    · rename_i h4
      simp only [h4]
      split at h
      · exact ⟨fun l hl => ⟨h.1 l hl, fun l' hl' => by rw [hl] at hl'; obtain rfl := Option.some.inj hl'; exact ⟨(by first | trivial | exact rfl), (by first | trivial | exact rfl)⟩, h.2⟩, h.2⟩
      · split at h
        · rename_i h5
          simp only [h5]
          exact ⟨fun l hl => ⟨h.1 l hl, fun l' hl' => by rw [hl] at hl'; obtain rfl := Option.some.inj hl'; exact ⟨(by first | trivial | exact rfl), (by first | trivial | exact rfl)⟩, h.2⟩, h.2⟩
        · exact h.elim
      · exact h.elim
    · exact h.elim
  · rename_i h1 h2
    simp only [h1, h2]
    split at h
    · rename_i h4 h5
      simp only [h4, h5]
      obtain ⟨h6, h7⟩ := h
      rw [litK_eq] at h7 ⊢
      exact ⟨h6, h7, h6, by rw [litK_eq]; exact ⟨(by first | trivial | exact rfl), (by first | trivial | exact rfl)⟩⟩
    · exact h.elim
  · exact h.elim
theorem opK_self (hd : drawable o.op = true) (h : opK P e s o K) : opK P e s o fun v s' => K v s' ∧ opK P e s o fun u t => u = v ∧ t = s' := by
  have key : ∀ {A : (V → List O → Prop) → Prop}, (∀ K, opK P e s o K = A K) → A (fun v s' => K v s' ∧ A fun u t => u = v ∧ t = s') → opK P e s o fun v s' => K v s' ∧ opK P e s o fun u t => u = v ∧ t = s' := by
    intro A hA h
    simp only [hA]
    exact h
  cases ho : o.op with
  | move x => exact key (A := fun K => K (ev e x) s) (fun K => by simp only [opK, ho]) ⟨by simpa only [opK, ho] using h, (by first | trivial | exact rfl), (by first | trivial | exact rfl)⟩
  | assign x => exact key (A := fun K => K (ev e x) s) (fun K => by simp only [opK, ho]) ⟨by simpa only [opK, ho] using h, (by first | trivial | exact rfl), (by first | trivial | exact rfl)⟩
  | pick c x y =>
    simp only [opK, ho] at h ⊢
    split at h
    · rename_i b hb
      have := csplit_self (s := s) h
      cases b
      · exact ⟨h, by first | trivial | exact ⟨rfl, rfl⟩⟩
      · exact ⟨h, by first | trivial | exact ⟨rfl, rfl⟩⟩
    · exact h.elim
  | alloc t =>
    simp only [opK, ho, litK_eq] at h ⊢
    split at h
    · exact ⟨h, (by first | trivial | exact rfl), (by first | trivial | exact rfl)⟩
    · exact h.elim
  | box t x =>
    simp only [opK, ho, litK_eq] at h ⊢
    split at h
    · exact ⟨h, (by first | trivial | exact rfl), (by first | trivial | exact rfl)⟩
    · exact h.elim
  | build t ps =>
    simp only [opK, ho] at h ⊢
    split at h
    · split at h
      · rename_i h1; simp only [h1]; exact ⟨h, (by first | trivial | exact rfl), (by first | trivial | exact rfl)⟩
      · exact h.elim
    · split at h
      · rename_i h0; simp only [h0]
        split at h
        · rename_i h1; simp only [h1]; exact ⟨h, (by first | trivial | exact rfl), (by first | trivial | exact rfl)⟩
        · exact h.elim
      · exact h.elim
    · exact h.elim
  | buildSlice t n ps =>
    simp only [opK, ho] at h ⊢
    split at h
    · split at h
      · rename_i h1 h2; simp only [h1, h2]
        split at h
        · rename_i h3 h4 h5 h6
          simp only [h3, h4, h5, h6]
          exact ⟨h, (by first | trivial | exact rfl), (by first | trivial | exact rfl)⟩
        · exact h.elim
      · exact h.elim
    · exact h.elim
  | load t x =>
    simp only [opK, ho] at h ⊢
    split at h
    · split at h
      · rename_i h1; simp only [h1]
        split at h
        · rename_i h2; simp only [h2]; exact ⟨h, (by first | trivial | exact rfl), (by first | trivial | exact rfl)⟩
        · exact h.elim
      · exact h.elim
    · split at h
      · rename_i h2; simp only [h2]; exact ⟨h, (by first | trivial | exact rfl), (by first | trivial | exact rfl)⟩
      · exact h.elim
    · split at h
      · rename_i h1; simp only [h1]
        refine ⟨h.1, fun cs hcs => ?_⟩
        have q := h.2 cs hcs
        split
        · rename_i v hv
          rw [hv] at q
          exact ⟨q, h.1, fun cs' hcs' => by rw [hcs] at hcs'; obtain rfl := Option.some.inj hcs'; rw [hv]; exact ⟨(by first | trivial | exact rfl), (by first | trivial | exact rfl)⟩⟩
        · rename_i hv
          rw [hv] at q
          exact q.elim
      · exact h.elim
    · exact h.elim
  | store t x y =>
    simp only [opK, ho] at h ⊢
    split at h
    · split at h
      · rename_i h1; simp only [h1]
        split at h
        · rename_i h2 h3 h4; simp only [h2, h3, h4]; exact ⟨h, (by first | trivial | exact rfl), (by first | trivial | exact rfl)⟩
        · exact h.elim
      · exact h.elim
    · split at h
      · rename_i h1; simp only [h1]
        refine ⟨h.1, fun cs hcs => ?_⟩
        have := h.2 cs hcs
        split at this
        · rename_i h2 h3 h4
          simp only [h2, h3, h4]
          exact ⟨this, h.1, fun cs' hcs' => by rw [hcs] at hcs'; obtain rfl := Option.some.inj hcs'; simp only [h2, h3, h4]; exact ⟨(by first | trivial | exact rfl), (by first | trivial | exact rfl)⟩⟩
        · exact this.elim
      · exact h.elim
    · exact h.elim
  | nilCheck x =>
    simp only [opK, ho] at h ⊢
    split at h
    · exact ⟨h, (by first | trivial | exact rfl), (by first | trivial | exact rfl)⟩
    · exact h.elim
  | binOp op t x y u =>
    simp only [opK, ho] at h ⊢
    have := binK_self h
    simpa using this
  | unOp op t x =>
    simp only [opK, ho] at h ⊢
    have := unK_self h
    simpa using this
  | convert t u x =>
    simp only [opK, ho] at h ⊢
    exact convK_self h
  | makeFunc fn xs ys =>
    simp only [opK, ho] at h ⊢
    split at h
    · exact ⟨h, (by first | trivial | exact rfl), (by first | trivial | exact rfl)⟩
    · exact h.elim
  | slice t x lo hi mx =>
    cases mx with
    | some _ => rw [ho] at hd; simp [drawable] at hd
    | none =>
      simp only [opK, ho, Option.map_none] at h ⊢
      have := sliceK_self h
      simpa using this
  | fieldAddr t x i =>
    simp only [opK, ho, litK_eq] at h ⊢
    split at h
    · split at h
      · rename_i h1; simp only [h1]
        split at h
        · rename_i h2; simp only [h2]
          split at h
          · exact ⟨h, (by first | trivial | exact rfl), (by first | trivial | exact rfl)⟩
          · exact ⟨h, (by first | trivial | exact rfl), (by first | trivial | exact rfl)⟩
          · exact ⟨h, (by first | trivial | exact rfl), (by first | trivial | exact rfl)⟩
          · exact h.elim
        · exact h.elim
      · exact h.elim
    · exact h.elim
  | field t x i =>
    simp only [opK, ho] at h ⊢
    split at h
    · split at h
      · rename_i h1; simp only [h1]
        split at h
        · rename_i h2; simp only [h2]; exact ⟨h, (by first | trivial | exact rfl), (by first | trivial | exact rfl)⟩
        · exact h.elim
      · exact h.elim
    · exact h.elim
  | indexAddr t x y =>
    simp only [opK, ho] at h ⊢
    split at h
    · split at h
      · rename_i h1; simp only [h1]
        refine ⟨h.1, fun cs hcs => ?_⟩
        have := h.2 cs hcs
        exact ⟨this.1, this.2, h.1, fun cs' hcs' => by rw [hcs] at hcs'; obtain rfl := Option.some.inj hcs'; exact ⟨this.1, (by first | trivial | exact rfl), (by first | trivial | exact rfl)⟩⟩
      · exact h.elim
    · split at h
      · rename_i h1 h2; simp only [h1, h2]
        split at h
        · rename_i h3; simp only [h3]; exact ⟨h.1, h.2, h.1, (by first | trivial | exact rfl), (by first | trivial | exact rfl)⟩
        · exact h.elim
      · exact h.elim
    · split at h
      · rename_i h1; simp only [h1]; exact ⟨h.1, h.2, h.1, (by first | trivial | exact rfl), (by first | trivial | exact rfl)⟩
      · exact h.elim
    · split at h
      · rename_i h1; simp only [h1]; exact ⟨h.1, h.2, h.1, (by first | trivial | exact rfl), (by first | trivial | exact rfl)⟩
      · exact h.elim
    · exact h.elim
  | index t x y =>
    simp only [opK, ho] at h ⊢
    split at h
    · refine ⟨h.1, fun c hc => ⟨h.2 c hc, h.1, fun c' hc' => by rw [hc] at hc'; obtain rfl := Option.some.inj hc'; exact ⟨(by first | trivial | exact rfl), (by first | trivial | exact rfl)⟩⟩⟩
    · split at h
      · rename_i h1; simp only [h1]
        refine ⟨h.1, h.2.1, fun c hc => ⟨h.2.2 c hc, h.1, h.2.1, fun c' hc' => by rw [hc] at hc'; obtain rfl := Option.some.inj hc'; exact ⟨(by first | trivial | exact rfl), (by first | trivial | exact rfl)⟩⟩⟩
      · exact h.elim
    · exact h.elim
  | extract x i =>
    simp only [opK, ho] at h ⊢
    split at h
    · split at h
      · rename_i h1; simp only [h1]; exact ⟨h, (by first | trivial | exact rfl), (by first | trivial | exact rfl)⟩
      · exact h.elim
    · exact h.elim
  | call c =>
    rw [ho] at hd
    simp only [opK, ho] at h ⊢
    unfold callK at h ⊢
    split at h
    · rename_i b hb
      obtain ⟨cl, ar, ts⟩ := c
      simp only at hb
      subst hb
      cases b <;> first
        | (simp [drawable] at hd; done)
        | exact len_self h
        | exact max_self h
        | exact min_self h
    · split at h
      · rename_i g fs cs hev
        rw [fL_eq (fV_eq 8)] at h
        obtain ⟨r, hr, hk⟩ := h
        simp only [hev, fL_eq (fV_eq 8)]
        exact ⟨r, hr, fun q => ⟨hk q, r, hr, fun _ => ⟨(by first | trivial | exact rfl), (by first | trivial | exact rfl)⟩⟩⟩
      · exact h.elim
    · exact h.elim
  | _ => rw [ho] at hd; simp [drawable] at hd
end
end Go.Proofs.Ytkkfclpodgagdaa.Ab
