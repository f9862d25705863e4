/- The machine's operations do what the rules say: built-in functions, conversions, slices, literals, calls. -/
import Derived.Test.YtkkfclpodgagdaaCoreJ
import Derived.Laws.BytesArg
namespace Go.Proofs.Ytkkfclpodgagdaa.Ab
open Go.RowKit
set_option linter.unusedVariables false
set_option linter.unusedSimpArgs false

section
variable {P : Program} {w0 : World} {m0 : Mem} {N : Nat} {m : Mem} {ι : List Blk} {e : Env} {s : List O} {a : Act} {w : World} {o : Oper} {K : V → List O → Prop}

theorem appendK_sound (h : St w0 m0 N m ι e s a w) {t u ty : TypeId} {d y : V} {dv yv : Value} (rd : Rep m ι d dv) (ry : Rep m ι y yv) (hk : appendK P t u d y s K) :
    ∃ x w', (Builtin.append_ #[t, u] ty #[dv, yv]).run P w = .ok x w' ∧ Lv w0 m0 N e a K x w' := by
  unfold appendK at hk
  split at hk
  · rename_i el ht
    split at hk
    · rename_i i hi
      split at hk
      · rename_i z hz
        split at hk
        · rename_i hq1 hq2
          have hzs := Nat.eq_of_beq_eq_true hq1
          split at hk
          · rename_i e2 x new hu
            by_cases hall : ∀ q ∈ new, q.length = i.size
            · obtain ⟨vs, p, cap, rfl, hc1, hx1, hl1, fl, src, _⟩ := row_cells (w := w) ry h.mok hall
              refine appendG_sound h ht hu (by simp) hi hz hzs rd (fun _ => ⟨fl, src⟩) (fun q => ?_) hk
              subst q
              have : vs = [] := List.eq_nil_of_length_eq_zero (by simpa using fl.len)
              subst this
              exact ⟨rfl, src⟩
            · have hne : new ≠ [] := fun q => hall (by subst q; simp)
              refine appendG_sound (news := []) h ht hu (by simp) hi hz hzs rd (fun q => absurd q hall) (fun q => absurd q hne) hk
          · rename_i e2 id off len hu
            cases ry with
            | sl _ _ _ _ p cap β hβ hl hc hn hb ha =>
              rw [at?_eq] at hk
              split at hk
              · rename_i wr sz els hs
                split at hk
                · rename_i hq3
                  have hq3 := Nat.eq_of_beq_eq_true hq3
                  subst hq3
                  obtain ⟨vs, et, fr, hsz, hh, hvl, hcap, hnn, hel, hszs, hcs, hfr, hml, hmn⟩ := h.obj id _ β hs hβ
                  have hle : els.length * i.size ≤ vs.length := by rw [hvl]; exact Nat.mul_le_mul_right _ hcap
                  have fl := Flat.part hcs hszs hle off len (by omega)
                  have hlen : ((els.drop off).take len).length = len := by simp; omega
                  have src : Src P w (.slice p len cap) len i.size ((vs.drop (off * i.size)).take (len * i.size)) := by
                    by_cases hc0 : cap = 0
                    · have : len = 0 := by omega
                      subst this
                      simpa using src_none (P := P) (w := w) (a := p) (cap := cap) (sz := i.size)
                    · obtain rfl := ha hc0
                      refine src_slice (by rw [fl.len, hlen]) fun j y hj => ?_
                      rw [List.getElem?_take] at hj
                      split at hj
                      · rw [List.getElem?_drop] at hj
                        rw [cell_heap hh, ← hsz]
                        exact hj
                      · cases hj
                  refine appendG_sound h ht hu (by simp) hi hz hzs rd (fun _ => ⟨fl, by rw [hlen]; exact src⟩) (fun q => ?_) hk
                  have h0 : len = 0 := by rw [← hlen, q]; rfl
                  subst h0
                  exact ⟨by simp, by simpa using src⟩
                · exact hk.elim
              · exact hk.elim
          · rename_i b hu
            split at hk
            · rename_i hq3
              have hq3 := Nat.eq_of_beq_eq_true hq3
              obtain ⟨rfl, hbs⟩ := ry.str_inv
              have src := src_string (P := P) (w := w) (b := b)
              refine appendG_sound (news := b.data.toList.map fun c => .int .u8 c.toNat) h ht hu (by simp) hi hz hzs rd (fun _ => ⟨by rw [hq3]; exact flat_bytes m b, by rw [hq3]; simpa using src⟩) (fun q => ?_) hk
              have hb0 : b.data.toList = [] := by simpa using q
              have hz0 : b.size = 0 := by
                have := congrArg List.length hb0
                simpa using this
              rw [hz0, hb0] at src
              rw [hq3]
              exact ⟨by simp [hb0], by simpa using src⟩
            · exact hk.elim
          · exact hk.elim
        · exact hk.elim
      · exact hk.elim
    · exact hk.elim
  · exact hk.elim

theorem lenK_sound (h : St w0 m0 N m ι e s a w) {t ty : TypeId} {x : V} {xv : Value} {K : V → Prop} (rx : Rep m ι x xv) (hk : lenK P t x s K) : ∃ v z, K v ∧ Rep m ι v z ∧ (Builtin.len_ #[t] ty #[xv]).run P w = .ok z w := by
  have big : ∀ n : Nat, n ≤ 9223372036854775807 → Rep m ι (.int .i64 (n : Int)) (goInt n) := fun n hn => .int _ _ _ (by rw [wrap_iff]; simp only [kLo, kHi]; omega)
  unfold lenK at hk
  split at hk
  · rename_i hu
    split at hk
    · rename_i b
      obtain ⟨rfl, hb⟩ := rx.str_inv
      exact ⟨_, _, hk hb, big _ hb, by simp [Builtin.len_, run_und hu]⟩
    · exact hk.elim
  · rename_i el hu
    split at hk
    · rename_i xx els
      cases rx with
      | row _ _ _ p cap sz' b off g hx1 hc1 hl1 hs1 ha1 hm1 hr1 => exact ⟨_, _, hk hl1, big _ hl1, by simp [Builtin.len_, run_und hu]⟩
    · rename_i id off len
      cases rx with
      | sl _ _ _ _ p cap β hβ hl hc hn hb ha => exact ⟨_, _, hk hb, big _ hb, by simp [Builtin.len_, run_und hu]⟩
    · exact hk.elim
  · rename_i n el hu
    obtain ⟨⟨hn⟩, hk⟩ := hk
    exact ⟨_, _, hk, big _ hn, by simp [Builtin.len_, run_und hu]⟩
  · rename_i k el hu
    split at hk
    · cases rx with
      | nilMap => exact ⟨_, _, hk, big 0 (by omega), by simp [Builtin.len_, run_und hu]⟩
    · rename_i id
      rw [at?_eq] at hk
      cases rx with
      | map _ _ β hβ =>
        split at hk
        · rename_i wr es hs
          exact (h.obj id _ β hs hβ).elim
        · exact hk.elim
    · exact hk.elim
  · exact hk.elim

theorem maxmin_rep {k : IntKind} {p q : Int} (hp : k.wrap p = p) (hq : k.wrap q = q) : Rep m ι (.int k (if q > p then q else p)) (.int k (if q > p then q else p)) ∧ Rep m ι (.int k (if q < p then q else p)) (.int k (if q < p then q else p)) :=
  ⟨.int _ _ _ (by split <;> assumption), .int _ _ _ (by split <;> assumption)⟩

theorem builtinK_sound (h : St w0 m0 N m ι e s a w) {b : Builtin} {ts : Array TypeId} {ty : TypeId} {consts : Array Bool} {args : List V} {xs : List Value} (r : RepL m ι args xs) (hts : ts.size = xs.length) (hk : builtinK P b ts args s K) :
    ∃ x w', (builtin b ts ty consts xs.toArray).run P w = .ok (.value x) w' ∧ Lv w0 m0 N e a K x w' := by
  unfold builtinK at hk
  split at hk
  · rename_i x
    obtain ⟨xv, hx, rx⟩ := r.get (i := 0) rfl
    obtain ⟨t, rfl⟩ : ∃ t, ts = #[t] := by
      have hl : ts.size = 1 := by rw [hts, ← r.1]; rfl
      exact ⟨ts[0], by apply Array.ext (by simp [hl]); intro i h1 h2; have : i = 0 := by omega
                       subst this; simp⟩
    obtain rfl : xs = [xv] := by
      have hl : xs.length = 1 := r.1.symm
      match xs, hl with
      | [y], _ => simpa using hx
    split at hk
    · rename_i t' ht
      simp at ht
      subst ht
      obtain ⟨v, z, hv, rz, hrun⟩ := lenK_sound h (ty := ty) rx hk
      exact ⟨z, w, by simp [builtin, hrun], v, s, m, ι, hv, rz, h⟩
    · exact hk.elim
  · rename_i d y
    obtain ⟨dv, hd, rd⟩ := r.get (i := 0) rfl
    obtain ⟨yv, hy, ry⟩ := r.get (i := 1) rfl
    obtain rfl : xs = [dv, yv] := by
      have hl : xs.length = 2 := r.1.symm
      match xs, hl with
      | [p, q], _ => simp at hd hy; subst hd; subst hy; rfl
    split at hk
    · rename_i t u ht hu
      have : ts = #[t, u] := by
        have hl : ts.size = 2 := hts
        apply Array.ext (by simp [hl])
        intro i h1 h2
        have h3 : i = 0 ∨ i = 1 := by omega
        rcases h3 with rfl | rfl
        · simpa [Array.getElem?_eq_getElem h1] using ht
        · simpa [Array.getElem?_eq_getElem h1] using hu
      subst this
      obtain ⟨x, w', hrun, lv⟩ := appendK_sound h (ty := ty) rd ry hk
      exact ⟨x, w', by simp [builtin, hrun], lv⟩
    · exact hk.elim
  · rename_i k p j q
    obtain ⟨xv, hx, rx⟩ := r.get (i := 0) rfl
    obtain ⟨yv, hy, ry⟩ := r.get (i := 1) rfl
    obtain rfl : xs = [xv, yv] := by
      have hl : xs.length = 2 := r.1.symm
      match xs, hl with
      | [p, q], _ => simp at hx hy; subst hx; subst hy; rfl
    obtain ⟨rfl, hp⟩ := rx.int_inv
    obtain ⟨rfl, hq⟩ := ry.int_inv
    split at hk
    · rename_i hkj
      have hkj := of_decide_eq_true hkj
      subst hkj
      exact ⟨_, w, by simp [builtin, run_max_int2], _, s, m, ι, hk, (maxmin_rep hp hq).1, h⟩
    · exact hk.elim
  · rename_i k p j q
    obtain ⟨xv, hx, rx⟩ := r.get (i := 0) rfl
    obtain ⟨yv, hy, ry⟩ := r.get (i := 1) rfl
    obtain rfl : xs = [xv, yv] := by
      have hl : xs.length = 2 := r.1.symm
      match xs, hl with
      | [p, q], _ => simp at hx hy; subst hx; subst hy; rfl
    obtain ⟨rfl, hp⟩ := rx.int_inv
    obtain ⟨rfl, hq⟩ := ry.int_inv
    split at hk
    · rename_i hkj
      have hkj := of_decide_eq_true hkj
      subst hkj
      exact ⟨_, w, by simp [builtin, run_min_int2], _, s, m, ι, hk, (maxmin_rep hp hq).2, h⟩
    · exact hk.elim
  · exact hk.elim

theorem Rep.wf : ∀ (n : Nat) {m : Mem} {ι : List Blk} (v : V) (x : Value), Rep m ι v x → wfV n v
  | 0, _, _, _, _, _ => trivial
  | n + 1, m, ι, v, x, h => by
    cases h with
    | int _ k z hz => exact hz
    | str _ b hb => exact hb
    | elem _ cs b o g hm hr =>
      intro c hc
      obtain ⟨j, hj, rfl⟩ := List.mem_iff_getElem.1 hc
      exact Rep.wf n _ _ (hr j _ (List.getElem?_eq_getElem hj))
    | row _ x els p cap sz b o g hx hc hl hs ha hm hr =>
      refine ⟨hl, fun el he c hc => ?_⟩
      obtain ⟨i, hi, rfl⟩ := List.mem_iff_getElem.1 he
      obtain ⟨j, hj, rfl⟩ := List.mem_iff_getElem.1 hc
      exact Rep.wf n _ _ (hr i j _ _ (List.getElem?_eq_getElem hi) (List.getElem?_eq_getElem hj))
    | agg _ cs vs hl hr =>
      intro c hc
      obtain ⟨j, hj, rfl⟩ := List.mem_iff_getElem.1 hc
      exact Rep.wf n _ _ (hr j _ _ (List.getElem?_eq_getElem hj) (List.getElem?_eq_getElem (hl ▸ hj)))
    | tup _ cs vs hl hr =>
      intro c hc
      obtain ⟨j, hj, rfl⟩ := List.mem_iff_getElem.1 hc
      exact Rep.wf n _ _ (hr j _ _ (List.getElem?_eq_getElem hj) (List.getElem?_eq_getElem (hl ▸ hj)))
    | _ => trivial

theorem goes_call (h : St w0 m0 N m ι e s a w) {c : Call} (ho : o.op = .call c) (hc : o.op.operands.toList.all okX = true) (hts : c.argTypes.size = c.args.size) (hk : opK P e s o K) : Goes P o a w (Lv w0 m0 N e a K) := by
  simp only [opK, ho] at hk
  unfold callK at hk
  have hops : (∀ f, c.callee = .value f → okX f = true) ∧ c.args.toList.all okX = true := by
    rw [ho] at hc
    simp only [Op.operands, Call.operands, Array.toList_append, List.all_append, Bool.and_eq_true] at hc
    refine ⟨fun f hf => ?_, hc.2⟩
    have := hc.1
    rw [hf] at this
    simpa using this
  have ra := ats h hops.2
  split at hk
  · rename_i b hcb
    obtain ⟨x, w', hrun, lv⟩ := builtinK_sound (ty := o.type) (consts := c.args.map fun | .const _ => true | _ => false) h ra (by simpa using hts) hk
    unfold Goes
    have : (execOp a.eval o).run P w = .ok (.value x) w' := by
      simp only [execOp, ho, resolve, hcb, Sem.run_bind, Sem.run_pure, Result.andThen_ok, invoke]
      rw [Array.toArray_toList] at hrun
      exact hrun
    rw [this]
    exact lv
  · rename_i f hcf
    have rf := h.at (hops.1 f hcf)
    generalize hvf : a.eval f = vf at *
    split at hk
    · rename_i g fs cs hev
      rw [hev] at rf
      cases rf with
      | fn _ _ _ _ va vb ha hb rva rvb =>
        rw [fL_eq (fV_eq 8)] at hk
        obtain ⟨r, hr, hk⟩ := hk
        have rl : RepL m ι (fs ++ c.args.toList.map (Ab.ev e) ++ cs) (va ++ (c.args.map a.eval).toList ++ vb) := (RepL.append ⟨ha, rva⟩ ra).append ⟨hb, rvb⟩
        obtain ⟨m', hle, h', rl'⟩ := h.freeze rl
        have hcall := hr m' w _ h'.mok rl'
        unfold Goes
        have hrun : (execOp a.eval o).run P w = (callFunc g (va ++ (c.args.map a.eval).toList ++ vb).toArray).run P w := by
          simp only [execOp, ho, resolve, hcf, hvf, Deferred.ofValue, Sem.run_bind, Sem.run_pure, Result.andThen_ok, invoke]
          congr 2
          apply Array.ext'
          simp
        rw [hrun]
        unfold CallsX at hcall
        have fin : ∀ {v : Value} {w' : World}, (∃ m2 : Mem, m'.le m2 ∧ m2.ok w' ∧ Rep m2 [] r v ∧ Below w.heap.size w w' ∧ ∀ b o x, m2 b o = some x → m' b o = none → w.heap.size ≤ b) → Lv w0 m0 N e a K v w' := by
          rintro v w' ⟨m2, hle2, hok, rv, hbel, hfr⟩
          exact ⟨r, _, m2, ι, hk (rv.wf 8), rv.closed ι, h'.grow hle2 hok hbel hfr⟩
        generalize (callFunc g (va ++ (c.args.map a.eval).toList ++ vb).toArray).run P w = q at hcall
        cases q with
        | ok nx w1 =>
          cases nx <;> first
            | exact fin hcall
            | exact hcall.mono fun e w'' ⟨v, he, h2⟩ => ⟨v, he, fin h2⟩
            | exact hcall.elim
        | halt x w1 => exact hcall.elim
    · exact hk.elim
  · exact hk.elim
end
end Go.Proofs.Ytkkfclpodgagdaa.Ab
