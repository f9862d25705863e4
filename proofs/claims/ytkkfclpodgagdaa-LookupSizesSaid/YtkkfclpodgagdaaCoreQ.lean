/- The machine does what the rules say: whole functions. -/
import Derived.Test.YtkkfclpodgagdaaCoreD4
namespace Go.Proofs.Ytkkfclpodgagdaa.Ab
open Go.RowKit
set_option linter.unusedVariables false
set_option linter.unusedSimpArgs false

/-- A loop whose measure stands beside the state. -/
theorem wp_loop2 {σ : Type} {P : Program} {Q : Exit → Act → World → Prop} {c : Code} {a : Act} {w : World} (I : σ → Act → World → Prop) (μ : σ → Nat) (x0 : σ) (h0 : I x0 a w)
    (round : ∀ x a w, I x a w → c.wp P (Exit.then (fun a' w' => ∃ x', I x' a' w' ∧ μ x' < μ x) Q) a w) : (Code.loop c).wp P Q a w := by
  intro b k cs
  have key : ∀ n x a w, μ x = n → I x a w → ∃ e a' w', Q e a' w' ∧ Arrives P (lone (b.at a (.code c :: .inLoop c :: k)) cs w) b k cs e a' w' := by
    intro n
    induction n using Nat.strongRecOn with
    | _ n ih =>
      intro x a w hn hI
      obtain ⟨e, a1, w1, hq, harr⟩ := round x a w hI b (.inLoop c :: k) cs
      cases e with
      | normal =>
        obtain ⟨x1, hI1, hlt⟩ := hq
        obtain ⟨e2, a2, w2, hq2, harr2⟩ := ih (μ x1) (hn ▸ hlt) x1 a1 w1 rfl hI1
        exact ⟨e2, a2, w2, hq2, .of_steps (Steps.trans harr (.one step_inLoop)) harr2⟩
      | exit id => exact ⟨_, a1, w1, hq, .pass (x := .inLoop c) rfl (fun _ _ => .inl (by simp)) harr⟩
      | goto l => exact ⟨_, a1, w1, hq, .pass (x := .inLoop c) rfl (fun _ _ => .inl (by simp)) harr⟩
      | ret => exact ⟨_, a1, w1, hq, .pass (x := .inLoop c) rfl (fun _ _ => .inl (by simp)) harr⟩
      | panic ch => exact ⟨_, a1, w1, hq, .pass (x := .inLoop c) rfl (fun _ _ => .inl (by simp)) harr⟩
      | outgrown => exact ⟨_, a1, w1, hq, .pass (x := .inLoop c) rfl (fun _ _ => .inl (by simp)) harr⟩
  obtain ⟨e, a', w', hq, harr⟩ := key _ x0 a w rfl h0
  exact ⟨e, a', w', hq, .of_steps (.one step_loop) harr⟩

/-- What is looked at once, for a function's text. -/
def okC (P : Program) (N : Nat) (G : List (Nat × List Nat × List (Nat × Nat))) : Code → Bool
  | .region id ops d => ops.toList.all (okO P N) && (match d with | true => drawOk P ops (gl G id).1 (gl G id).2 | false => true)
  | .seq a b => okC P N G a && okC P N G b
  | .cond c a b => okX c && okC P N G a && okC P N G b
  | .block _ b => okC P N G b
  | .loop b => okC P N G b
  | _ => true

section
variable {P : Program} {w0 : World} {m0 : Mem} {N : Nat} {H : Nat → Option (List Nat)} {G : List (Nat × List Nat × List (Nat × Nat))}
/-- The rules' ways out and the machine's. -/
def QQ (w0 : World) (m0 : Mem) (N : Nat) (Q : Ex → Env → List O → Prop) (x : Exit) (a : Act) (w : World) : Prop :=
  ∃ e s m ι, St w0 m0 N m ι e s a w ∧ match x with | .normal => Q .nrm e s | .exit id => Q (.ext id) e s | .ret => Q .rtn e s | _ => False

theorem awp_sound (hP : P.follows .mixedOrders = true) : ∀ (c : Code), okC P N G c = true → ∀ (Q : Ex → Env → List O → Prop) (e : Env) (s : List O), awp P H G c Q e s →
    ∀ (m : Mem) (ι : List Blk) (a : Act) (w : World), St w0 m0 N m ι e s a w → c.wp P (QQ w0 m0 N Q) a w
  | .skip, _, Q, e, s, hk, m, ι, a, w, h => wp_skip ⟨e, s, m, ι, h, hk⟩
  | .region id ops d, hok, Q, e, s, hk, m, ι, a, w, h => by
    simp only [okC, Bool.and_eq_true, List.all_eq_true] at hok
    have hQ : ∀ e s m ι a w, St w0 m0 N m ι e s a w → (match H id with | some ks => keepK (fun v => v) e ks fun e => Q .nrm e s | none => Q .nrm e s) → QQ w0 m0 N Q .normal a w := by
      intro e s m ι a w h hk
      split at hk
      · rename_i ks hks
        rw [keepK_eq] at hk
        exact ⟨_, s, m, ι, h.keep ks, hk⟩
      · exact ⟨e, s, m, ι, h, hk⟩
    replace hk : cRegion P H G id ops d Q e s := hk
    unfold cRegion at hk
    cases d with
    | false =>
      refine wp_region ?_
      have := opsK_sound hok.1 hQ ops.toList 0 rfl e s m ι a w h hk
      rwa [Array.length_toList, ← List.range_eq_range'] at this
    | true =>
      refine wp_region_any hP (draw_sound hok.1 hok.2 hQ h ?_)
      have : (fun e s => drawDue ops (gl G id).1 (gl G id).2 e = true ∧ (match H id with | some ks => keepK (fun v => v) e ks fun e => Q .nrm e s | none => Q .nrm e s)) = fun e s => match drawDue ops (gl G id).1 (gl G id).2 e with
          | true => match H id with | some ks => keepK (fun v => v) e ks fun e => Q .nrm e s | none => Q .nrm e s
          | false => False := by
        funext e s
        cases drawDue ops (gl G id).1 (gl G id).2 e <;> simp
      rw [this]
      exact hk
  | .seq x y, hok, Q, e, s, hk, m, ι, a, w, h => by
    simp only [okC, Bool.and_eq_true] at hok
    replace hk : cSeq (awp P H G x) (awp P H G y) Q e s := hk
    unfold cSeq at hk
    refine wp_seq (wp_mono (awp_sound hP x hok.1 _ e s hk m ι a w h) ?_)
    rintro x a w ⟨e, s, m, ι, h, hq⟩
    cases x with
    | normal => exact awp_sound hP y hok.2 Q e s hq m ι a w h
    | exit id => exact ⟨e, s, m, ι, h, hq⟩
    | ret => exact ⟨e, s, m, ι, h, hq⟩
    | _ => exact hq.elim
  | .cond c x y, hok, Q, e, s, hk, m, ι, a, w, h => by
    simp only [okC, Bool.and_eq_true] at hok
    replace hk : cCond c (awp P H G x) (awp P H G y) Q e s := hk
    unfold cCond at hk
    split at hk
    · rename_i b hb
      have rc := h.at hok.1.1
      rw [hb] at rc
      have hv := rc.bool_inv
      have say : ∀ {F : Env → Prop}, setB e c b F → ∃ e', F e' ∧ St w0 m0 N m ι e' s a w := by
        intro F hF
        unfold setB at hF
        split at hF
        · rename_i t
          rw [setK_eq] at hF
          refine ⟨_, hF, h.say ?_⟩
          have : a.tmps.getD t undef = .bool b := hv
          rw [this]
          exact .bool _ _
        · exact ⟨e, hF, h⟩
      cases b
      · obtain ⟨e', hF, h'⟩ := say hk
        exact wp_cond_false hv (awp_sound hP y hok.2 Q e' s hF m ι a w h')
      · obtain ⟨e', hF, h'⟩ := say hk
        exact wp_cond_true hv (awp_sound hP x hok.1.2 Q e' s hF m ι a w h')
    · exact hk.elim
  | .block id x, hok, Q, e, s, hk, m, ι, a, w, h => by
    simp only [okC] at hok
    replace hk : cBlock id (awp P H G x) Q e s := hk
    unfold cBlock at hk
    refine wp_block (wp_mono (awp_sound hP x hok _ e s hk m ι a w h) ?_)
    rintro x a w ⟨e, s, m, ι, h, hq⟩
    cases x with
    | normal => exact ⟨e, s, m, ι, h, hq⟩
    | exit id' =>
      simp only [Exit.inBlock]
      simp only at hq
      split at hq
      · rename_i hb
        rw [if_pos (Nat.eq_of_beq_eq_true hb)]
        exact ⟨e, s, m, ι, h, hq⟩
      · rename_i hb
        rw [if_neg (fun z => by subst z; simp at hb)]
        exact ⟨e, s, m, ι, h, hq⟩
    | ret => exact ⟨e, s, m, ι, h, hq⟩
    | _ => exact hq.elim
  | .loop x, hok, Q, e, s, hk, m, ι, a, w, h => by
    simp only [okC] at hok
    obtain ⟨σ, ks, g, E, S, J, μ, hg, h0, hround⟩ := hk
    rw [keepK_eq, fL_eq fO_eq] at h0
    obtain ⟨x0, he0, hs0, hj0⟩ := h0
    have h1 := h.select ks g hg
    rw [he0, hs0] at h1
    refine wp_loop2 (σ := σ) (fun x a w => ∃ m ι, St w0 m0 N m ι (E x) (S x) a w ∧ J x) μ x0 ⟨m, _, h1, hj0⟩ ?_
    rintro y a w ⟨m, ι, h, hJ⟩
    refine wp_mono (awp_sound hP x hok _ _ _ (hround y hJ) m ι a w h) ?_
    rintro x a w ⟨e, s, m, ι, h, hq⟩
    cases x with
    | normal =>
      simp only [keepK_eq, fL_eq fO_eq] at hq
      obtain ⟨z, he, hs, hj, hlt⟩ := hq
      have h2 := h.select ks g hg
      rw [he, hs] at h2
      exact ⟨z, ⟨m, _, h2, hj⟩, hlt⟩
    | exit id => exact ⟨e, s, m, ι, h, hq⟩
    | ret => exact ⟨e, s, m, ι, h, hq⟩
    | _ => exact hq.elim
  | .exit id, _, Q, e, s, hk, m, ι, a, w, h => wp_exit ⟨e, s, m, ι, h, hk⟩
  | .ret, _, Q, e, s, hk, m, ι, a, w, h => wp_ret ⟨e, s, m, ι, h, hk⟩
  | .rangeFunc .., _, Q, e, s, hk, m, ι, a, w, h => (show False from hk).elim
  | .scope _, _, Q, e, s, hk, m, ι, a, w, h => (show False from hk).elim
  | .label _, _, Q, e, s, hk, m, ι, a, w, h => (show False from hk).elim
  | .goto _, _, Q, e, s, hk, m, ι, a, w, h => (show False from hk).elim
  | .refuse _, _, Q, e, s, hk, m, ι, a, w, h => (show False from hk).elim

theorem resV_sound {m : Mem} {ι : List Blk} {e : Env} {s : List O} {a : Act} {w : World} (h : St w0 m0 N m ι e s a w) {x : ResultVar} {v : V} (hv : resV P e s x = some v) :
    ∃ y, (match x with | .tmp t => (pure (a.tmps.getD t undef) : Sem Value) | .cell b t => do loadVar t (← asAddr (a.tmps.getD b undef))).run P w = .ok y w ∧ Rep m ι v y := by
  unfold resV at hv
  split at hv
  · obtain rfl := Option.some.inj hv
    exact ⟨_, rfl, h.env _⟩
  · rename_i b t
    split at hv
    · rename_i id off hp
      have r := h.env b
      rw [hp] at r
      generalize hbv : a.tmps.getD b undef = bv at r
      cases r with
      | ptr _ _ _ β hβ =>
        rw [at?_eq] at hv
        split at hv
        · rename_i wr cs hs
          obtain ⟨vs, rr, hm⟩ := box_cells h hs hβ off
          obtain ⟨y, hy, ry⟩ := run_ldV (P := P) hv hm rr
          exact ⟨y, by simp [hbv, asAddr, hy], ry⟩
        · cases hv
    · cases hv

theorem resL_sound {m : Mem} {ι : List Blk} {e : Env} {s : List O} {a : Act} {w : World} (h : St w0 m0 N m ι e s a w) : ∀ (rs : List ResultVar) (vs : List V), resL P e s rs = some vs →
    ∃ ys, (rs.mapM fun (x : ResultVar) => match x with | .tmp t => (pure (a.tmps.getD t undef) : Sem Value) | .cell b t => do loadVar t (← asAddr (a.tmps.getD b undef))).run P w = Result.ok ys w ∧ RepL m ι vs ys
  | [], vs, hv => by
    simp only [resL, Option.some.injEq] at hv
    subst hv
    exact ⟨[], by simp, RepL.nil m ι⟩
  | x :: rs, vs, hv => by
    simp only [resL] at hv
    split at hv
    · rename_i v us h1 h2
      obtain rfl := Option.some.inj hv
      obtain ⟨y, hy, ry⟩ := resV_sound h h1
      obtain ⟨ys, hys, rys⟩ := resL_sound h rs us h2
      refine ⟨y :: ys, ?_, rys.cons ry⟩
      simp only [List.mapM_cons, Sem.run_bind, hy, Result.andThen_ok, hys, Sem.run_pure]
    · cases hv
theorem run_results {fn : Func} {m : Mem} {ι : List Blk} {e : Env} {s : List O} {a : Act} {w : World} (h : St w0 m0 N m ι e s a w) {r : V} (hr : resE P fn.results.toList r e s) :
    ∃ y m', (results fn a.tmps).run P w = .ok y w ∧ m.le m' ∧ Rep m' [] r y ∧ ∃ s', St w0 m0 N m' ι e s' a w := by
  unfold resE at hr
  have main : ∀ vs, resL P e s fn.results.toList = some vs → ∃ ys, (results fn a.tmps).run P w = .ok (if h : ys.toArray.size = 1 then ys.toArray[0] else .tuple ys.toArray) w ∧ RepL m ι vs ys := by
    intro vs hvs
    obtain ⟨ys, hys, rys⟩ := resL_sound h _ _ hvs
    refine ⟨ys, ?_, rys⟩
    unfold results
    rw [Array.mapM_eq_mapM_toList]
    simp only [bind_map_left, Sem.run_bind, Sem.run_pure]
    exact congrArg (fun r : Result (List Value) => r.andThen fun a w' => Result.ok (if h : a.toArray.size = 1 then a.toArray[0] else Value.tuple a.toArray) w') hys
  split at hr
  · rename_i v hvs
    rw [fV_eq] at hr
    obtain ⟨ys, hrun, rys⟩ := main _ hvs
    obtain ⟨y, rfl⟩ : ∃ y, ys = [y] := by
      have := rys.1
      match ys, this with
      | [y], _ => exact ⟨y, rfl⟩
    obtain ⟨m', hle, h', rl⟩ := h.freeze rys
    refine ⟨y, m', by simpa using hrun, hle, ?_, _, h'⟩
    have := rl.2 0 _ y rfl rfl
    rwa [hr] at this
  · rename_i vs hne hvs
    rw [fV_eq] at hr
    obtain ⟨ys, hrun, rys⟩ := main _ hvs
    have hn : ¬ ys.toArray.size = 1 := by
      intro q
      have hl : vs.length = 1 := by rw [rys.1]; simpa using q
      match vs, hl with
      | [v], _ => exact hne v rfl
    rw [dif_neg hn] at hrun
    obtain ⟨m', hle, h', rl⟩ := h.freeze (vs := [.tup vs]) (xs := [.tuple ys.toArray]) ((RepL.nil m ι).cons (Rep.tupL rys))
    refine ⟨_, m', hrun, hle, ?_, _, h'⟩
    have := rl.2 0 _ _ rfl rfl
    simp only [frz] at this
    rwa [hr] at this
  · exact hr.elim

theorem env0_get : ∀ (args : List V) (i t : Nat), Env.get ((args.zipIdx i).map fun x => (x.2, x.1)) t = if i ≤ t then (args[t - i]?).getD .undef else .undef
  | [], i, t => by simp [Env.get]
  | v :: args, i, t => by
    simp only [List.zipIdx_cons, List.map_cons, Env.get]
    cases q : Nat.beq i t
    · have hne : i ≠ t := fun z => by subst z; simp at q
      simp only [env0_get args (i + 1) t]
      by_cases h : i + 1 ≤ t
      · rw [if_pos h, if_pos (by omega), show t - i = t - (i + 1) + 1 by omega, List.getElem?_cons_succ]
      · rw [if_neg h, if_neg (by omega)]
    · have := Nat.eq_of_beq_eq_true q
      subst this
      simp

/-- A function does what its rules say. -/
theorem Ret.of (hP : P.follows .mixedOrders = true) (H : Nat → Option (List Nat)) (G : List (Nat × List Nat × List (Nat × Nat))) {f : FuncId} {fn : Func} {c : Code} (hf : P.funcs[f]? = some fn) (hb : fn.body = some c) (hcall : ∀ args w, (callFunc f args).run P w = .ok (.enter f args) w)
    (hok : okC P fn.ntmps G c = true) {args : List V} {r : V} (hn : args.length ≤ fn.ntmps) (hk : (∀ a ∈ args, wfV 8 a) → awp P H G c (finK P fn.results.toList r) (env0 args) []) : Ret P f args r := by
  intro m w vs hm rv
  have hwf : ∀ a ∈ args, wfV 8 a := by
    intro x hx
    obtain ⟨i, hi, rfl⟩ := List.mem_iff_getElem.1 hx
    exact (rv.2 i _ _ (List.getElem?_eq_getElem hi) (List.getElem?_eq_getElem (rv.1 ▸ hi))).wf 8
  unfold CallsX
  rw [hcall]
  have h0 : St w m fn.ntmps m [] (env0 args) [] { tmps := vs.toArray ++ Array.replicate (fn.ntmps - vs.toArray.size) undef, defers := [] } w :=
    { defers := rfl
      size := by simp [← rv.1]; omega
      env := fun t => by
        unfold env0
        rw [env0_get args 0 t, if_pos (Nat.zero_le _), Nat.sub_zero]
        cases q : args[t]? with
        | none => exact .undef _ _
        | some v =>
          obtain ⟨y, hy, ry⟩ := rv.get q
          have hlt := (List.getElem?_eq_some_iff.1 hy).1
          have : (vs.toArray ++ Array.replicate (fn.ntmps - vs.toArray.size) undef).getD t undef = y := by
            rw [Array.getD_eq_getD_getElem?, Array.getElem?_append_left (by simpa using hlt)]
            simp [hy]
          rw [this]
          exact ry
      mle := Mem.le.refl m
      mok := hm
      fresh := fun b o x hx hn => by rw [hx] at hn; cases hn
      below := Below.refl _ _
      len := rfl
      obj := fun i o β ho _ => by simp at ho
      own := fun i o β ho _ _ => by simp at ho
      inj := fun i j o p β γ ho _ _ _ _ _ _ => by simp at ho }
  refine calls_of_wp hf hb (wp_mono (awp_sound hP c hok _ _ _ (hk hwf) m [] _ w h0) ?_)
  rintro x a w' ⟨e, s, m1, ι, h, hq⟩
  have fin : resE P fn.results.toList r e s → a.defers = [] ∧ ∃ v, (results fn a.tmps).run P w' = .ok v w' ∧ ∃ v', Ending.returned v = .returned v' ∧ ∃ m' : Mem, m.le m' ∧ m'.ok w' ∧ Rep m' [] r v' ∧ Below w.heap.size w w' ∧ ∀ b o x, m' b o = some x → m b o = none → w.heap.size ≤ b := by
    intro hr
    obtain ⟨y, m', hrun, hle, ry, s', h'⟩ := run_results h hr
    exact ⟨h.defers, y, hrun, y, rfl, m', h'.mle, h'.mok, ry, h'.below, h'.fresh⟩
  cases x with
  | normal => exact fin hq
  | ret => exact fin hq
  | exit id => exact hq.elim
  | _ => exact hq.elim
end
end Go.Proofs.Ytkkfclpodgagdaa.Ab
