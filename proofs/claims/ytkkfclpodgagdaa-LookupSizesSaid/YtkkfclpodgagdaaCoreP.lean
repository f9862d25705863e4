/- The machine does what the rules say: one operation, a region in the order of its text. -/
import Derived.Test.YtkkfclpodgagdaaCoreN
namespace Go.Proofs.Ytkkfclpodgagdaa.Ab
open Go.RowKit
set_option linter.unusedVariables false
set_option linter.unusedSimpArgs false

section
variable {P : Program} {w0 : World} {m0 : Mem} {N : Nat} {m : Mem} {ι : List Blk} {e : Env} {s : List O} {a : Act} {w : World} {o : Oper} {K : V → List O → Prop}

theorem opK_sound (h : St w0 m0 N m ι e s a w) (hok : okO P N o = true) (hk : opK P e s o K) : Goes P o a w (Lv w0 m0 N e a K) := by
  have hok2 := hok
  unfold okO at hok2
  simp only [Bool.and_eq_true] at hok2
  obtain ⟨⟨_, hc⟩, hs⟩ := hok2
  cases ho : o.op with
  | move x =>
    rw [ho] at hc
    have hx : okX x = true := by simpa [Op.operands] using hc
    simp only [opK, ho] at hk
    exact Goes.here h (by simp [execOp, ho]) (h.at hx) hk
  | assign x =>
    rw [ho] at hc
    have hx : okX x = true := by simpa [Op.operands] using hc
    simp only [opK, ho] at hk
    exact Goes.here h (by simp [execOp, ho]) (h.at hx) hk
  | pick c x y =>
    rw [ho] at hc
    have hx : okX c = true ∧ okX x = true ∧ okX y = true := by simpa [Op.operands] using hc
    simp only [opK, ho] at hk
    have rc := h.at hx.1
    split at hk
    · rename_i b hb
      rw [hb] at rc
      have hbv := rc.bool_inv
      cases b
      · exact Goes.here h (by simp [execOp, ho, hbv, asBool]) (h.at hx.2.2) hk
      · exact Goes.here h (by simp [execOp, ho, hbv, asBool]) (h.at hx.2.1) hk
    · exact hk.elim
  | alloc t => rw [ho] at hs; exact goes_alloc h ho hs hk
  | box t x => rw [ho] at hc; exact goes_boxop h ho (by simpa [Op.operands] using hc) hk
  | build t ps =>
    rw [ho] at hc hs
    simp only [Bool.and_eq_true] at hs
    exact goes_build h ho (by simpa [Op.operands] using hc) hs.1 hs.2 hk
  | buildSlice t n ps => rw [ho] at hc hs; exact goes_buildSlice h ho (by simpa [Op.operands] using hc) hs hk
  | load t x => rw [ho] at hc; exact goes_load h ho (by simpa [Op.operands] using hc) hk
  | store t x y =>
    rw [ho] at hc
    have hx : okX x = true ∧ okX y = true := by simpa [Op.operands] using hc
    exact goes_store h ho hx.1 hx.2 hk
  | nilCheck x => rw [ho] at hc; exact goes_nilCheck h ho (by simpa [Op.operands] using hc) hk
  | binOp op t x y u =>
    rw [ho] at hc hs
    have hx : okX x = true ∧ okX y = true := by simpa [Op.operands] using hc
    simp only [opK, ho] at hk
    obtain ⟨v, z, hv, rz, hr⟩ := binK_sound h hx.1 hx.2 hs hk
    exact Goes.here h (by simp only [execOp, ho, Sem.run_bind] at hr ⊢; simpa using congrArg (fun r : Result Value => r.andThen fun v w => Result.ok (Next.value v) w) hr) rz hv
  | unOp op t x => rw [ho] at hc; exact goes_unOp h ho (by simpa [Op.operands] using hc) hk
  | convert x y z => rw [ho] at hc; exact goes_convert h ho (by simpa [Op.operands] using hc) hk
  | makeInterface t x => rw [ho] at hc; exact goes_makeInterface h ho (by simpa [Op.operands] using hc) hk
  | typeAssert x t u ok => rw [ho] at hc hs; exact goes_typeAssert h ho (by simpa [Op.operands] using hc) hs hk
  | makeFunc fn xs ys =>
    rw [ho] at hc
    have hx : xs.toList.all okX = true ∧ ys.toList.all okX = true := by
      simp only [Op.operands, Array.toList_append, List.all_append, Bool.and_eq_true] at hc
      exact hc
    exact goes_makeFunc h ho hx.1 hx.2 hk
  | slice t x lo hi mx => exact goes_slice h ho hc hk
  | fieldAddr t x i => rw [ho] at hc; exact goes_fieldAddr h ho (by simpa [Op.operands] using hc) hk
  | field t x i => rw [ho] at hc; exact goes_field h ho (by simpa [Op.operands] using hc) hk
  | indexAddr t x y =>
    rw [ho] at hc
    have hx : okX x = true ∧ okX y = true := by simpa [Op.operands] using hc
    exact goes_indexAddr h ho hx.1 hx.2 hk
  | index t x y =>
    rw [ho] at hc
    have hx : okX x = true ∧ okX y = true := by simpa [Op.operands] using hc
    exact goes_index h ho hx.1 hx.2 hk
  | extract x i => rw [ho] at hc; exact goes_extract h ho (by simpa [Op.operands] using hc) hk
  | call c => rw [ho] at hs; exact goes_call h ho hc (Nat.eq_of_beq_eq_true hs) hk
  | _ => simp [opK, ho] at hk

/-- What a guard says. -/
theorem wanted_bool {ops : Array Oper} (h : St w0 m0 N m ι e s a w) {j t : Nat} {want b : Bool} (hg : o.guard = some (j, want)) (hd : (ops[j]?).bind (·.dst) = some t) (he : e.get t = .bool b) :
    Region.wanted o (yielded ops a.tmps) = (b == want) := by
  have r := h.env t
  rw [he] at r
  have hv := r.bool_inv
  have : a.tmps[t]? = some (.bool b) := by
    rw [Array.getD_eq_getD_getElem?] at hv
    cases q : a.tmps[t]? with
    | none => rw [q] at hv; cases hv
    | some x => rw [q] at hv; simpa using hv
  simp [Region.wanted, hg, yielded, hd, this]
theorem wanted_skip {ops : Array Oper} (h : St w0 m0 N m ι e s a w) {j t : Nat} {want : Bool} (hg : o.guard = some (j, want)) (hd : (ops[j]?).bind (·.dst) = some t) (he : e.get t = .tup []) :
    Region.wanted o (yielded ops a.tmps) = false := by
  have r := h.env t
  rw [he] at r
  obtain ⟨vs, hv, rv⟩ := r.tup_inv
  have hvs : vs = [] := List.eq_nil_of_length_eq_zero rv.1.symm
  subst hvs
  have : a.tmps[t]? = none ∨ a.tmps[t]? = some (.tuple #[]) := by
    rw [Array.getD_eq_getD_getElem?] at hv
    cases q : a.tmps[t]? with
    | none => exact .inl rfl
    | some x => rw [q] at hv; exact .inr (by simpa using hv)
  rcases this with q | q <;> simp [Region.wanted, hg, yielded, hd, q]

theorem okO_dst (hok : okO P N o = true) : ∀ t, o.dst = some t → t < N := by
  intro t ht
  unfold okO at hok
  simp only [Bool.and_eq_true] at hok
  have := hok.1.1
  rw [ht] at this
  exact Nat.le_of_ble_eq_true this

/-- A region in the order of its text. -/
theorem opsK_sound {ops : Array Oper} (hall : ∀ o ∈ ops.toList, okO P N o = true) {K : Env → List O → Prop} {Q : Exit → Act → World → Prop} (hQ : ∀ e s m ι a w, St w0 m0 N m ι e s a w → K e s → Q .normal a w) :
    ∀ (os : List Oper) (i : Nat), ops.toList.drop i = os → ∀ (e : Env) (s : List O) (m : Mem) (ι : List Blk) (a : Act) (w : World), St w0 m0 N m ι e s a w → opsK P ops os K e s → wpOps P ops Q (List.range' i os.length) a w
  | [], i, _, e, s, m, ι, a, w, h, hk => hQ e s m ι a w h hk
  | o :: os, i, hd, e, s, m, ι, a, w, h, hk => by
    have hi : ops[i]? = some o := by
      have : (ops.toList.drop i)[0]? = some o := by rw [hd]; rfl
      simpa using this
    have hok := hall o (List.mem_of_mem_drop (i := i) (by rw [hd]; exact List.mem_cons_self))
    have hd' : ops.toList.drop (i + 1) = os := by rw [← List.tail_drop, hd]; rfl
    have ih := opsK_sound hall hQ os (i + 1) hd'
    have go : ∀ {e : Env}, St w0 m0 N m ι e s a w → (opK P e s o fun v s' => fV 4 v fun v => fL fO s' fun s' => putK e o.dst v fun e => opsK P ops os K e s') →
        o.wp P a w (wpOps P ops Q (List.range' (i + 1) os.length)) Q := by
      intro e h hk
      refine Goes.wp ((opK_sound h hok hk).mono ?_)
      rintro x w' ⟨v, s', m', ι', hk2, rv, h2⟩
      rw [fV_eq, fL_eq fO_eq, putK_eq] at hk2
      exact ih _ _ _ _ _ _ (h2.put (okO_dst hok) rv) hk2
    have no : ∀ {e : Env}, St w0 m0 N m ι e s a w → (putK e o.dst (.tup []) fun e => opsK P ops os K e s) → wpOps P ops Q (List.range' (i + 1) os.length) (a.put o.dst undef) w := by
      intro e h hk
      rw [putK_eq] at hk
      exact ih _ _ _ _ _ _ (h.put (okO_dst hok) (Rep.tupL (vs := []) (RepL.nil m ι))) hk
    simp only [List.length_cons, List.range'_succ, wpOps, hi]
    rw [opsK_cons] at hk
    unfold opsC at hk
    split at hk
    · rename_i hg
      have : Region.wanted o (yielded ops a.tmps) = true := by simp [Region.wanted, hg]
      rw [if_pos this]
      exact .inl (go h hk)
    · rename_i j want hg
      split at hk
      · rename_i t ht
        split at hk
        · rename_i b hb
          have hw := wanted_bool h hg ht hb
          have rb : Rep m ι (.bool b) (a.tmps.getD t undef) := hb ▸ h.env t
          cases want <;> cases b <;> simp only [csplit, setK_eq] at hk
          · rw [if_pos (by rw [hw]; rfl)]
            exact .inl (go (h.say rb) hk)
          · rw [if_neg (by rw [hw]; decide)]
            exact no (h.say rb) hk
          · rw [if_neg (by rw [hw]; decide)]
            exact no (h.say rb) hk
          · rw [if_pos (by rw [hw]; rfl)]
            exact .inl (go (h.say rb) hk)
        · rename_i hb
          have hw := wanted_skip h hg ht hb
          rw [if_neg (by rw [hw]; decide)]
          exact no h hk
        · exact hk.elim
      · exact hk.elim
end
end Go.Proofs.Ytkkfclpodgagdaa.Ab
