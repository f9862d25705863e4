/- A region that draws its order: what an operation needs of slots and objects. -/
import Derived.Test.YtkkfclpodgagdaaCoreD1
namespace Go.Proofs.Ytkkfclpodgagdaa.Ab
open Go.RowKit
set_option linter.unusedVariables false
set_option linter.unusedSimpArgs false

section
variable {P : Program} {e e' : Env} {s s' : List O} {o : Oper} {K : V → List O → Prop}

theorem map_ev {xs : Array Operand} (h : ∀ x ∈ xs.toList, ev e x = ev e' x) : xs.toList.map (ev e) = xs.toList.map (ev e') := List.map_congr_left h
/-- An operation looks at its operands alone. -/
theorem opK_env (h : ∀ x ∈ o.op.operands.toList, ev e x = ev e' x) (hd : drawable o.op = true) : opK P e s o K = opK P e' s o K := by
  cases ho : o.op <;> rw [ho] at h hd <;> try (simp [drawable] at hd; done)
  case move x => simp only [opK, ho]; rw [h x (by simp [Op.operands])]
  case assign x => simp only [opK, ho]; rw [h x (by simp [Op.operands])]
  case pick c x y => simp only [opK, ho]; rw [h c (by simp [Op.operands]), h x (by simp [Op.operands]), h y (by simp [Op.operands])]
  case alloc t => simp only [opK, ho]
  case box t x => simp only [opK, ho]; rw [h x (by simp [Op.operands])]
  case build t ps =>
    simp only [opK, ho]
    have : (ps.toList.map fun q => (q.1, ev e q.2)) = ps.toList.map fun q => (q.1, ev e' q.2) := List.map_congr_left fun q hq => by rw [h q.2 (by simp only [Op.operands, List.mem_map]; exact ⟨q, hq, rfl⟩)]
    rw [this]
  case buildSlice t n ps =>
    simp only [opK, ho]
    have h1 : (ps.toList.map fun q => (q.1, frz 8 s (ev e q.2))) = ps.toList.map fun q => (q.1, frz 8 s (ev e' q.2)) := List.map_congr_left fun q hq => by rw [h q.2 (by simp only [Op.operands, List.mem_map]; exact ⟨q, hq, rfl⟩)]
    have h2 : (ps.toList.flatMap fun q => idl 8 s (ev e q.2)) = ps.toList.flatMap fun q => idl 8 s (ev e' q.2) := by
      simp only [List.flatMap]
      congr 1
      exact List.map_congr_left fun q hq => by rw [h q.2 (by simp only [Op.operands, List.mem_map]; exact ⟨q, hq, rfl⟩)]
    rw [h1, h2]
  case load t x => simp only [opK, ho]; rw [h x (by simp [Op.operands])]
  case store t x y => simp only [opK, ho]; rw [h x (by simp [Op.operands]), h y (by simp [Op.operands])]
  case nilCheck x => simp only [opK, ho]; rw [h x (by simp [Op.operands])]
  case binOp op t x y u => simp only [opK, ho]; rw [h x (by simp [Op.operands]), h y (by simp [Op.operands])]
  case unOp op t x => simp only [opK, ho]; rw [h x (by simp [Op.operands])]
  case convert t u x => simp only [opK, ho]; rw [h x (by simp [Op.operands])]
  case makeFunc fn xs ys =>
    simp only [opK, ho]
    rw [map_ev (xs := xs) fun x hx => h x (by simp only [Op.operands, Array.toList_append, List.mem_append]; exact .inl hx), map_ev (xs := ys) fun x hx => h x (by simp only [Op.operands, Array.toList_append, List.mem_append]; exact .inr hx)]
  case slice t x lo hi mx =>
    simp only [opK, ho]
    have ho : ∀ (z : Option Operand), (∀ y ∈ z.toArray.toList, ev e y = ev e' y) → z.map (ev e) = z.map (ev e') := by
      intro z hz
      cases z with
      | none => rfl
      | some y => simp only [Option.map_some]; rw [hz y (by simp)]
    have m1 : ∀ y ∈ lo.toArray.toList, ev e y = ev e' y := fun y hy => h y (by simp only [Op.operands, Array.toList_append, List.mem_append]; exact .inl (.inl (.inr hy)))
    have m2 : ∀ y ∈ hi.toArray.toList, ev e y = ev e' y := fun y hy => h y (by simp only [Op.operands, Array.toList_append, List.mem_append]; exact .inl (.inr hy))
    have m3 : ∀ y ∈ mx.toArray.toList, ev e y = ev e' y := fun y hy => h y (by simp only [Op.operands, Array.toList_append, List.mem_append]; exact .inr hy)
    rw [h x (by simp [Op.operands]), ho lo m1, ho hi m2, ho mx m3]
  case fieldAddr t x i => simp only [opK, ho]; rw [h x (by simp [Op.operands])]
  case field t x i => simp only [opK, ho]; rw [h x (by simp [Op.operands])]
  case indexAddr t x y => simp only [opK, ho]; rw [h x (by simp [Op.operands]), h y (by simp [Op.operands])]
  case index t x y => simp only [opK, ho]; rw [h x (by simp [Op.operands]), h y (by simp [Op.operands])]
  case extract x i => simp only [opK, ho]; rw [h x (by simp [Op.operands])]
  case call c =>
    simp only [opK, ho]
    have ha : c.args.toList.map (ev e) = c.args.toList.map (ev e') := map_ev fun x hx => h x (by simp only [Op.operands, Call.operands, Array.toList_append, List.mem_append]; exact .inr hx)
    unfold callK
    rw [ha]
    split
    · rfl
    · rename_i f hf
      rw [h f (by simp only [Op.operands, Call.operands, Array.toList_append, List.mem_append]; exact .inl (by simp [hf]))]
    · rfl

/-- Objects that both states know hold the same. -/
def agr (s s' : List O) : Prop := ∀ (i : Nat) o o', s[i]? = some o → s'[i]? = some o' → o.ro = o'.ro
/-- The operations that change no object and make none. -/
def quiet (P : Program) : Op → Bool
  | .alloc _ => false
  | .box _ _ => false
  | .buildSlice _ _ _ => false
  | .store _ _ _ => false
  | .convert _ u _ => (match P.underlying u with | some (.slice _) => false | _ => true)
  | .call { callee := .value _, .. } => false
  | _ => true
theorem ro_box {o : O} {w : Bool} {cs : List V} (h : O.ro (.box w cs) = o.ro) : ∃ w', o = .box w' cs := by
  cases o <;> simp [O.ro] at h
  exact ⟨_, by rw [h]⟩
theorem ro_arr {o : O} {w : Bool} {z : Nat} {els : List (List V)} (h : O.ro (.arr w z els) = o.ro) : ∃ w', o = .arr w' z els := by
  cases o <;> simp [O.ro] at h
  obtain ⟨rfl, rfl⟩ := h
  exact ⟨_, rfl⟩
theorem ro_map {o : O} {w : Bool} {es : List (V × V)} (h : O.ro (.map w es) = o.ro) : o = .map w es := by
  cases o <;> simp [O.ro] at h
  obtain ⟨rfl, rfl⟩ := h
  rfl
theorem binK_mono {op : BinOp} {t : TypeId} {x y : V} {A B : V → Prop} (hAB : ∀ u, A u → B u) (h : binK P op t x y A) : binK P op t x y B := by
  unfold binK at h ⊢
  split at h
  · split at h
    · exact ⟨h.1, hAB _ h.2⟩
    · exact ⟨h.1, hAB _ h.2⟩
    · split at h
      · exact h.elim
      · rename_i hkj
        (try simp only [hkj])
        split at h
        · exact hAB _ h
        · exact hAB _ h
        · exact hAB _ h
        · exact ⟨h.1, hAB _ h.2⟩
        · exact ⟨h.1, hAB _ h.2⟩
        · split at h
          · rename_i r hr
            (try simp only [hr])
            exact hAB _ h
          · rename_i hr
            split at h
            · rename_i c hc
              (try simp only [hr, hc])
              exact hAB _ h
            · exact h.elim
  · split at h
    · exact ⟨h.1, hAB _ h.2⟩
    · split at h
      · rename_i c hc
        (try simp only [hc])
        exact hAB _ h
      · exact h.elim
  · split at h
    · rename_i hu
      split at h
      · rename_i c hc
        (try simp only [hu, hc])
        exact hAB _ h
      · exact h.elim
    · exact h.elim
  · split at h
    · rename_i fs hu
      split at h
      · rename_i c hc
        split at h
        · rename_i r hr
          (try simp only [hu, hc, hr])
          exact hAB _ h
        · exact h.elim
      · exact h.elim
    · exact h.elim
  · split at h
    · rename_i d hu
      split at h
      · rename_i c hc
        split at h
        · rename_i r hr
          (try simp only [hu, hc, hr])
          exact hAB _ h
        · exact h.elim
      · exact h.elim
    · exact h.elim
theorem len_move {R : V → List O → Prop} {ts : Array TypeId} {l : List V} (hx : ∀ y ∈ l, ∀ i, topId y = some i → ∃ o', s'[i]? = some o' ∧ ∀ o, s[i]? = some o → o.ro = o'.ro) (hR : ∀ v, K v s → R v s') (h : builtinK P .len ts l s K) : builtinK P .len ts l s' R := by
  match l, h, hx with
  | [x], h, hx =>
    simp only [builtinK] at h ⊢
    split at h
    · rename_i t ht
      (try rw [ht])
      have hmem := hx x List.mem_cons_self
      unfold lenK at h ⊢
      simp only [at?_eq] at h ⊢
      split at h
      · split at h
        · exact fun q => hR _ (h q)
        · exact h.elim
      · split at h
        · exact fun q => hR _ (h q)
        · exact fun q => hR _ (h q)
        · exact h.elim
      · exact ⟨h.1, hR _ h.2⟩
      · split at h
        · exact hR _ h
        · rename_i id
          obtain ⟨o', ho', ha⟩ := hmem id rfl
          split at h
          · rename_i w es hs
            obtain rfl := ro_map (ha _ hs)
            (try simp only [ho'])
            exact fun q => hR _ (h q)
          · exact h.elim
        · exact h.elim
      · exact h.elim
    · exact h.elim
  | [], h, _ => exact h.elim
  | _ :: _ :: _, h, _ => exact h.elim
theorem max_move {R : V → List O → Prop} {ts : Array TypeId} {l : List V} (hR : ∀ v, K v s → R v s') (h : builtinK P .max ts l s K) : builtinK P .max ts l s' R := by
  unfold builtinK at h ⊢
  split at h <;> first
    | exact h.elim
    | (rename_i hb; cases hb; done)
    | (split at h
       · rename_i h1; (try simp only [h1]); exact hR _ h
       · exact h.elim)
theorem min_move {R : V → List O → Prop} {ts : Array TypeId} {l : List V} (hR : ∀ v, K v s → R v s') (h : builtinK P .min ts l s K) : builtinK P .min ts l s' R := by
  unfold builtinK at h ⊢
  split at h <;> first
    | exact h.elim
    | (rename_i hb; cases hb; done)
    | (split at h
       · rename_i h1; (try simp only [h1]); exact hR _ h
       · exact h.elim)
/-- A quiet operation gives the same in any state that agrees, and leaves it. -/
theorem opK_move {R : V → List O → Prop} (hq : quiet P o.op = true) (hd : drawable o.op = true) (hx : ∀ x ∈ looks o.op, ∀ i, topId (ev e x) = some i → ∃ o', s'[i]? = some o' ∧ ∀ o, s[i]? = some o → o.ro = o'.ro) (hR : ∀ v, K v s → R v s')
    (h : opK P e s o K) : opK P e s' o R := by
  cases ho : o.op <;> rw [ho] at hq hd hx <;> try (first | (simp [drawable] at hd; done) | (simp [quiet] at hq; done))
  case move x => simp only [opK, ho] at h ⊢; exact hR _ h
  case assign x => simp only [opK, ho] at h ⊢; exact hR _ h
  case pick c x y =>
    simp only [opK, ho] at h ⊢
    split at h
    · rename_i b hb
      cases b
      · exact hR _ h
      · exact hR _ h
    · exact h.elim
  case build t ps =>
    simp only [opK, ho] at h ⊢
    split at h
    · split at h
      · rename_i h1; (try simp only [h1]); exact hR _ h
      · exact h.elim
    · split at h
      · rename_i h0; (try simp only [h0])
        split at h
        · rename_i h1; (try simp only [h1]); exact hR _ h
        · exact h.elim
      · exact h.elim
    · exact h.elim
  case load t x =>
    have hx := hx x (by simp [looks])
    simp only [opK, ho, at?_eq] at h ⊢
    split at h
    · rename_i id off hev
      obtain ⟨o', ho', ha⟩ := hx id (by rw [hev]; rfl)
      split at h
      · rename_i wr cs hs
        obtain ⟨w', rfl⟩ := ro_box (ha _ hs)
        (try simp only [ho'])
        split at h
        · rename_i h2; (try rw [h2]); exact hR _ h
        · exact h.elim
      · exact h.elim
    · split at h
      · rename_i h2; (try rw [h2]); exact hR _ h
      · exact h.elim
    · rename_i id i off hev
      obtain ⟨o', ho', ha⟩ := hx id (by rw [hev]; rfl)
      split at h
      · rename_i wr sz els hs
        obtain ⟨w', rfl⟩ := ro_arr (ha _ hs)
        (try simp only [ho'])
        refine ⟨h.1, fun cs hcs => ?_⟩
        have q := h.2 cs hcs
        split at q
        · rename_i u hu
          (try rw [hu])
          exact hR _ q
        · exact q.elim
      · exact h.elim
    · exact h.elim
  case nilCheck x =>
    simp only [opK, ho] at h ⊢
    split at h
    · exact hR _ h
    · exact h.elim
  case binOp op t x y u =>
    simp only [opK, ho] at h ⊢
    exact binK_mono hR h
  case unOp op t x =>
    simp only [opK, ho] at h ⊢
    unfold unK at h ⊢
    split at h
    · exact hR _ h
    · exact hR _ h
    · exact h.elim
  case convert t u x =>
    have hx := hx x (by simp [looks])
    simp only [opK, ho] at h ⊢
    unfold convK at h ⊢
    simp only [at?_eq] at h ⊢
    split at h
    · rename_i h1 h2; (try simp only [h1, h2]); exact hR _ h
    · rename_i h1 h2; (try simp only [h1, h2]); exact hR _ h
    · rename_i h1 h2 h3
      (try simp only [h1, h2])
      split at h
      · rename_i h4
        (try simp only [h4])
        split at h
        · exact ⟨fun l hl => hR _ (h.1 l hl), h.2⟩
        · rename_i id off len hev
          obtain ⟨o', ho', ha⟩ := hx id (by rw [hev]; rfl)
          split at h
          · rename_i wr sz els hs
            obtain ⟨w', rfl⟩ := ro_arr (ha _ hs)
            (try simp only [ho'])
            exact ⟨fun l hl => hR _ (h.1 l hl), h.2⟩
          · exact h.elim
        · exact h.elim
      · exact h.elim
    · rename_i h0 h1 h2
      simp [quiet, h1] at hq
    · exact h.elim
  case makeFunc fn xs ys =>
    simp only [opK, ho] at h ⊢
    split at h
    · exact hR _ h
    · exact h.elim
  case slice t x lo hi mx =>
    have hx2 := hx x (by simp [looks])
    cases mx with
    | some _ => simp [drawable] at hd
    | none =>
      simp only [opK, ho, Option.map_none] at h ⊢
      unfold sliceK at h ⊢
      simp only [low_iff, high_iff, at?_eq] at h ⊢
      split at h
      · rename_i h1
        obtain ⟨l, hl, r, hr, a, b⟩ := h
        exact ⟨l, hl, r, hr, a, hR _ b⟩
      · split at h
        · rename_i z hz
          (try simp only [hz])
          obtain ⟨l, hl, r, hr, a, b, c⟩ := h
          exact ⟨l, hl, r, hr, a, b, hR _ c⟩
        · exact h.elim
      · rename_i id off len hu hev
        obtain ⟨o', ho', ha⟩ := hx2 id (by rw [hev]; rfl)
        split at h
        · rename_i wr sz els z hmx hs hz
          obtain ⟨w', rfl⟩ := ro_arr (ha _ hs)
          (try simp only [ho', hz])
          split at h
          · rename_i hq2
            (try simp only [hq2])
            obtain ⟨l, hl, r, hr, a, b⟩ := h
            exact ⟨l, hl, r, hr, a, hR _ b⟩
          · exact h.elim
        · exact h.elim
      · exact h.elim
  case fieldAddr t x i =>
    simp only [opK, ho, litK_eq] at h ⊢
    split at h
    · split at h
      · rename_i h1; (try simp only [h1])
        split at h
        · rename_i h2; (try simp only [h2])
          split at h
          · exact hR _ h
          · exact hR _ h
          · exact hR _ h
          · exact h.elim
        · exact h.elim
      · exact h.elim
    · exact h.elim
  case field t x i =>
    simp only [opK, ho] at h ⊢
    split at h
    · split at h
      · rename_i h1; (try simp only [h1])
        split at h
        · rename_i h2; (try simp only [h2]); exact hR _ h
        · exact h.elim
      · exact h.elim
    · exact h.elim
  case indexAddr t x y =>
    have hx := hx x (by simp [looks])
    simp only [opK, ho, at?_eq] at h ⊢
    split at h
    · split at h
      · rename_i h1; (try simp only [h1])
        exact ⟨h.1, fun cs hcs => ⟨(h.2 cs hcs).1, hR _ (h.2 cs hcs).2⟩⟩
      · exact h.elim
    · rename_i id off len k n hu hev hn
      obtain ⟨o', ho', ha⟩ := hx id (by rw [hev]; rfl)
      split at h
      · rename_i wr sz els z hs hz
        obtain ⟨w', rfl⟩ := ro_arr (ha _ hs)
        (try simp only [ho', hz])
        split at h
        · rename_i h3; (try simp only [h3]); exact ⟨h.1, hR _ h.2⟩
        · exact h.elim
      · exact h.elim
    · split at h
      · rename_i h1; (try simp only [h1]); exact ⟨h.1, hR _ h.2⟩
      · exact h.elim
    · split at h
      · rename_i h1; (try simp only [h1]); exact ⟨h.1, hR _ h.2⟩
      · exact h.elim
    · exact h.elim
  case index t x y =>
    simp only [opK, ho] at h ⊢
    split at h
    · exact ⟨h.1, fun c hc => hR _ (h.2 c hc)⟩
    · split at h
      · rename_i h1; (try simp only [h1])
        exact ⟨h.1, h.2.1, fun c hc => hR _ (h.2.2 c hc)⟩
      · exact h.elim
    · exact h.elim
  case extract x i =>
    simp only [opK, ho] at h ⊢
    split at h
    · split at h
      · rename_i h1; (try simp only [h1]); exact hR _ h
      · exact h.elim
    · exact h.elim
  case call c =>
    simp only [opK, ho] at h ⊢
    unfold callK at h ⊢
    split at h
    · rename_i b hb
      obtain ⟨cl, ar, ts⟩ := c
      simp only at hb
      subst hb
      have hx : ∀ x ∈ ar.toList, ∀ i, topId (ev e x) = some i → ∃ o', s'[i]? = some o' ∧ ∀ o, s[i]? = some o → o.ro = o'.ro := fun x hx' => hx x hx'
      have hmem : ∀ y ∈ ar.toList.map (ev e), ∀ i, topId y = some i → ∃ o', s'[i]? = some o' ∧ ∀ o, s[i]? = some o → o.ro = o'.ro := by
        intro y hy i hi
        obtain ⟨x, hx', rfl⟩ := List.mem_map.1 hy
        exact hx x hx' i hi
      cases b <;> first
        | (simp [drawable] at hd; done)
        | exact len_move hmem hR h
        | exact max_move hR h
        | exact min_move hR h
    · rename_i f hf
      obtain ⟨cl, ar, ts⟩ := c
      simp only at hf
      subst hf
      simp [quiet] at hq
    · exact h.elim
theorem clo_mono : ∀ (n : Nat) (v : V), clo n v = true → clo (n + 1) v = true
  | 0, v, h => by simp [clo] at h
  | n + 1, v, h => by
    have l : ∀ cs : List V, cs.all (clo n) = true → cs.all (clo (n + 1)) = true := fun cs h => List.all_eq_true.2 fun x hx => clo_mono n x (List.all_eq_true.1 h x hx)
    cases v <;> simp only [clo, Bool.and_eq_true] at h ⊢ <;> try (first | exact h | (cases h; done))
    · exact ⟨l _ h.1, l _ h.2⟩
    · exact clo_mono n _ h
    · exact l _ h
    · exact l _ h
theorem clo_frz : ∀ (n : Nat) (v : V), clo n v = true → ∀ s s' : List O, frz n s v = frz n s' v ∧ idl n s v = []
  | 0, v, h, s, s' => by simp [clo] at h
  | n + 1, v, h, s, s' => by
    have l : ∀ cs : List V, cs.all (clo n) = true → cs.map (frz n s) = cs.map (frz n s') ∧ cs.flatMap (idl n s) = [] := fun cs h =>
      ⟨List.map_congr_left fun x hx => (clo_frz n x (List.all_eq_true.1 h x hx) s s').1, List.flatMap_eq_nil_iff.2 fun x hx => (clo_frz n x (List.all_eq_true.1 h x hx) s s').2⟩
    cases v <;> simp only [clo, Bool.and_eq_true] at h <;> simp only [frz, idl] <;> try (first | exact trivial | exact ⟨trivial, trivial⟩ | exact ⟨rfl, rfl⟩ | (cases h; done))
    · exact ⟨by rw [(l _ h.1).1, (l _ h.2).1], by rw [(l _ h.1).2, (l _ h.2).2]; rfl⟩
    · exact ⟨by rw [(clo_frz n _ h s s').1], (clo_frz n _ h s s').2⟩
    · exact ⟨by rw [(l _ h).1], (l _ h).2⟩
    · exact ⟨by rw [(l _ h).1], (l _ h).2⟩
theorem opM_move (hm : mild o.op = true) (hc : closedO e o = true) (h : opK P e s o K) : opK P e s' o fun v t => t = s' ∧ K v s := by
  have hcl : ∀ x ∈ o.op.operands.toList, clo 8 (ev e x) = true := List.all_eq_true.1 hc
  cases ho : o.op <;> rw [ho] at hm hcl <;> try (simp [mild] at hm; done)
  case buildSlice t n ps =>
    simp only [opK, ho] at h ⊢
    have h1 : (ps.toList.map fun q => (q.1, frz 8 s' (ev e q.2))) = ps.toList.map fun q => (q.1, frz 8 s (ev e q.2)) :=
      List.map_congr_left fun q hq => by rw [(clo_frz 8 _ (hcl q.2 (by simp only [Op.operands, Array.toList_map, List.mem_map]; exact ⟨q, hq, rfl⟩)) s' s).1]
    have h2 : ∀ s, (ps.toList.flatMap fun q => idl 8 s (ev e q.2)) = [] := fun s =>
      List.flatMap_eq_nil_iff.2 fun q hq => (clo_frz 8 _ (hcl q.2 (by simp only [Op.operands, Array.toList_map, List.mem_map]; exact ⟨q, hq, rfl⟩)) s s).2
    rw [h1]
    simp only [h2, mark] at h ⊢
    split at h
    · split at h
      · rename_i h3 h4; (try simp only [h3, h4])
        split at h
        · rename_i h5 h6 h7 h8
          (try simp only [h5, h6, h7, h8])
          exact ⟨trivial, h⟩
        · exact h.elim
      · exact h.elim
    · exact h.elim
  case call c =>
    simp only [opK, ho] at h ⊢
    unfold callK at h ⊢
    split at h
    · rename_i b hb
      obtain ⟨cl, ar, ts⟩ := c
      simp only at hb
      subst hb
      simp [mild] at hm
    · rename_i f hf
      have hargs : ∀ v ∈ c.args.toList.map (ev e), clo 8 v = true := by
        intro v hv
        obtain ⟨x, hx, rfl⟩ := List.mem_map.1 hv
        exact hcl x (by simp only [Op.operands, Call.operands, Array.toList_append, List.mem_append]; exact .inr hx)
      have hfc : clo 8 (ev e f) = true := hcl f (by simp only [Op.operands, Call.operands, Array.toList_append, List.mem_append]; exact .inl (by simp [hf]))
      split at h
      · rename_i g fs cs hev
        rw [hev] at hfc
        simp only [clo, Bool.and_eq_true] at hfc
        have hall : ∀ v ∈ fs ++ c.args.toList.map (ev e) ++ cs, clo 8 v = true := by
          intro v hv
          simp only [List.mem_append] at hv
          rcases hv with (hv | hv) | hv
          · exact clo_mono 7 v (List.all_eq_true.1 hfc.1 v hv)
          · exact hargs v hv
          · exact clo_mono 7 v (List.all_eq_true.1 hfc.2 v hv)
        have h1 : (fs ++ c.args.toList.map (ev e) ++ cs).map (frz 8 s') = (fs ++ c.args.toList.map (ev e) ++ cs).map (frz 8 s) := List.map_congr_left fun v hv => (clo_frz 8 v (hall v hv) s' s).1
        have h2 : ∀ s, (fs ++ c.args.toList.map (ev e) ++ cs).flatMap (idl 8 s) = [] := fun s => List.flatMap_eq_nil_iff.2 fun v hv => (clo_frz 8 v (hall v hv) s s).2
        rw [h1]
        simp only [h2, mark] at h ⊢
        rw [fL_eq (fV_eq 8)] at h ⊢
        obtain ⟨r, hr, hk⟩ := h
        exact ⟨r, hr, fun q => ⟨trivial, hk q⟩⟩
      · exact h.elim
    · exact h.elim
end
end Go.Proofs.Ytkkfclpodgagdaa.Ab
