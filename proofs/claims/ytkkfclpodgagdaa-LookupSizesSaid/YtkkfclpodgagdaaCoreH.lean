/- The machine's operations do what the rules say: variables, parts of values, addresses. -/
import Derived.Test.YtkkfclpodgagdaaCoreG
namespace Go.Proofs.Ytkkfclpodgagdaa.Ab
open Go.RowKit
set_option linter.unusedVariables false
set_option linter.unusedSimpArgs false

section
variable {P : Program} {w0 : World} {m0 : Mem} {N : Nat} {m : Mem} {ι : List Blk} {e : Env} {s : List O} {a : Act} {w : World} {o : Oper} {K : V → List O → Prop}

/-- A new block of cells. -/
def wnew (w : World) (vs : List Value) (t : TypeId) : World := { w with heap := w.heap.push (.cells vs.toArray t) }
theorem below_new (w : World) (vs : List Value) (t : TypeId) : Below w.heap.size w (wnew w vs t) :=
  ⟨rfl, rfl, rfl, by simp [wnew], fun k hk => by simp only [wnew, Array.getElem?_push]; rw [if_neg (by omega)]⟩
theorem wnew_size (w : World) (vs : List Value) (t : TypeId) : (wnew w vs t).heap.size = w.heap.size + 1 := by simp [wnew]
theorem wnew_at (w : World) (vs : List Value) (t : TypeId) : (wnew w vs t).heap[w.heap.size]? = some (.cells vs.toArray t (0, 0)) := by
  show (w.heap.push _)[w.heap.size]? = _
  rw [Array.getElem?_push, if_pos rfl]
theorem Mem.ok.none_ {m : Mem} {w : World} (h : m.ok w) {b : Nat} (hb : w.heap.size ≤ b) (o : Nat) : m b o = none := by
  cases q : m b o with
  | none => rfl
  | some v => have := h.lt q; omega

theorem St.newBox (h : St w0 m0 N m ι e s a w) {cs : List V} {vs : List Value} (r : RepL m ι cs vs) (t : TypeId) :
    St w0 m0 N m (ι ++ [⟨w.heap.size, 0, 0, 0⟩]) e (s ++ [.box true cs]) a (wnew w vs t) :=
  h.new (below_new w vs t) (by rw [wnew_size]; omega) rfl
    ⟨vs, t, (0, 0), wnew_at w vs t, r.ext (fun i γ hi => by rw [List.getElem?_append_left (List.getElem?_eq_some_iff.1 hi).1]; exact hi), fun i hi => by omega, fun _ o => h.mok.none_ (Nat.le_refl _) o⟩

theorem goes_box (h : St w0 m0 N m ι e s a w) {x : Value} {v : V} {cs : List V} (r : Rep m ι v x) (hc : cellsV v = some cs) {t : TypeId}
    (hr : (execOp a.eval o).run P w = .ok (.value (.pointer (some ⟨w.heap.size, 0, none⟩))) (wnew w x.cells.toList t)) (k : K (.ptr s.length 0) (s ++ [.box true cs])) : Goes P o a w (Lv w0 m0 N e a K) := by
  unfold Goes
  rw [hr]
  refine ⟨_, _, m, _, k, ?_, h.newBox (r.cells hc) t⟩
  have hp := Rep.ptr (m := m) (ι ++ [⟨w.heap.size, 0, 0, 0⟩]) s.length 0 ⟨w.heap.size, 0, 0, 0⟩ (by rw [← h.len]; simp)
  exact hp

theorem goes_alloc (h : St w0 m0 N m ι e s a w) {t : TypeId} (ho : o.op = .alloc t) (hz : zOk P t = true) (hk : opK P e s o K) : Goes P o a w (Lv w0 m0 N e a K) := by
  simp only [opK, ho] at hk
  split at hk
  · rename_i cs hcs
    rw [Option.bind_eq_some_iff] at hcs
    obtain ⟨z, hz1, hz2⟩ := hcs
    obtain ⟨v, hv, rfl, hok⟩ := run_zero (w := w) hz1 hz
    rw [litK_eq] at hk
    refine goes_box h (ofC_rep m ι v hok) hz2 (t := t) ?_ hk
    simp [execOp, ho, Instr.alloc, hv, newVar, newRow, wnew]
  · exact hk.elim
theorem goes_boxop (h : St w0 m0 N m ι e s a w) {t : TypeId} {x : Operand} (ho : o.op = .box t x) (hx : okX x = true) (hk : opK P e s o K) : Goes P o a w (Lv w0 m0 N e a K) := by
  simp only [opK, ho] at hk
  split at hk
  · rename_i cs hcs
    rw [litK_eq] at hk
    refine goes_box h (h.at hx) hcs (t := t) ?_ hk
    simp [execOp, ho, Instr.box, newVar, newRow, wnew]
  · exact hk.elim

/-- A variable read, out of its cells. -/
theorem run_ldV {t : TypeId} {cs : List V} {v : V} (hv : ldV P t cs = some v) {b off : Nat} {vs : List Value} (hm : ∀ (j : Nat) x, vs[j]? = some x → w.cell? ⟨b, off + j, none⟩ = some x) (r : RepL m ι cs vs) :
    ∃ x, (loadVar t ⟨b, off, none⟩).run P w = .ok x w ∧ Rep m ι v x := by
  unfold ldV at hv
  split at hv
  · rename_i n hA hn
    split at hv
    · rename_i hle
      have hle := Nat.le_of_ble_eq_true hle
      obtain rfl := Option.some.inj hv
      have hl : (vs.take n).length = n := by simp; rw [← r.1]; exact Nat.min_eq_left hle
      refine ⟨_, ?_, Rep.aggL (r.take n)⟩
      have := run_loadCells_list (P := P) w ⟨b, off, none⟩ (vs.take n) (fun j x hj => by
        rw [addr_add]
        rw [List.getElem?_take] at hj
        split at hj
        · exact hm j x hj
        · cases hj)
      rw [hl] at this
      simp [loadVar, run_isAgg hA, run_size hn, this]
    · cases hv
  · rename_i hA
    cases cs with
    | nil => simp at hv
    | cons c cs =>
      simp only [List.head?_cons, Option.some.injEq] at hv
      subst hv
      obtain ⟨x, hx, rx⟩ := r.get (i := 0) rfl
      refine ⟨x, ?_, rx⟩
      have := hm 0 x hx
      simp only [Nat.add_zero] at this
      simp [loadVar, run_isAgg hA, this]
  · cases hv

/-- The cells on which a pointer to a variable stands. -/
theorem box_cells (h : St w0 m0 N m ι e s a w) {id : Nat} {wr : Bool} {cs : List V} {β : Blk} (hs : s[id]? = some (.box wr cs)) (hβ : ι[id]? = some β) (off : Nat) :
    ∃ vs, RepL m ι (cs.drop off) vs ∧ ∀ (j : Nat) x, vs[j]? = some x → w.cell? ⟨β.blk, off + j, none⟩ = some x := by
  obtain ⟨vs, et, fr, hh, hcs, _, _⟩ := h.obj id _ β hs hβ
  exact ⟨vs.drop off, hcs.drop off, fun j x hj => by rw [cell_heap hh]; simpa using hj⟩

theorem goes_load (h : St w0 m0 N m ι e s a w) {t : TypeId} {x : Operand} (ho : o.op = .load t x) (hx : okX x = true) (hk : opK P e s o K) : Goes P o a w (Lv w0 m0 N e a K) := by
  simp only [opK, ho] at hk
  have rx := h.at hx
  have fin : ∀ {b off : Nat} {cs : List V} {vs : List Value} {v : V}, a.eval x = .pointer (some ⟨b, off, none⟩) → ldV P t cs = some v → (∀ (j : Nat) x, vs[j]? = some x → w.cell? ⟨b, off + j, none⟩ = some x) → RepL m ι cs vs → K v s →
      Goes P o a w (Lv w0 m0 N e a K) := by
    intro b off cs vs v he hv hm r k
    obtain ⟨y, hy, ry⟩ := run_ldV (P := P) hv hm r
    exact Goes.here h (by simp [execOp, ho, Instr.loadAt, Instr.sureAddr, he, hy]) ry k
  generalize hvx : a.eval x = vx at *
  generalize ev e x = ux at *
  split at hk
  · rename_i id off
    cases rx with
    | ptr _ _ _ β hβ =>
      rw [at?_eq] at hk
      split at hk
      · rename_i wr cs hs
        split at hk
        · rename_i v hv
          obtain ⟨vs, r, hm⟩ := box_cells h hs hβ off
          exact fin rfl hv hm r hk
        · exact hk.elim
      · exact hk.elim
  · rename_i cs
    cases rx with
    | elem _ _ b off g hm hr =>
      split at hk
      · rename_i v hv
        refine fin (vs := (List.range cs.length).map g) rfl hv ?_ ⟨by simp, ?_⟩ hk
        · intro j y hj
          simp only [List.getElem?_map, Option.map_eq_some_iff] at hj
          obtain ⟨i, hi, rfl⟩ := hj
          have hlt : j < cs.length := by have := (List.getElem?_eq_some_iff.1 hi).1; simpa using this
          have : i = j := by rw [List.getElem?_range hlt] at hi; exact (Option.some.inj hi).symm
          subst this
          exact h.mok _ _ _ (hm i _ (List.getElem?_eq_getElem hlt))
        · intro j c y hc hj
          simp only [List.getElem?_map, Option.map_eq_some_iff] at hj
          obtain ⟨i, hi, rfl⟩ := hj
          have hlt := (List.getElem?_eq_some_iff.1 hc).1
          have : i = j := by rw [List.getElem?_range hlt] at hi; exact (Option.some.inj hi).symm
          subst this
          exact (hr i c hc).closed ι
      · exact hk.elim
  · rename_i id i off
    cases rx with
    | eptr _ _ _ _ β hβ =>
      rw [at?_eq] at hk
      split at hk
      · rename_i wr sz els hs
        obtain ⟨⟨hi⟩, hk⟩ := hk
        have hk := hk _ (List.getElem?_eq_getElem hi)
        split at hk
        · rename_i v hv
          obtain ⟨vs, et, fr, rfl, hh, hvl, hcap, hn, hel, hsz, hcs, _, _, _⟩ := h.obj id _ β hs hβ
          refine fin (vs := (List.range (els[i].drop off).length).map fun j => vs.getD (i * β.sz + (off + j)) undef) rfl hv ?_ ⟨by simp, ?_⟩ hk
          · intro j y hj
            simp only [List.getElem?_map, Option.map_eq_some_iff] at hj
            obtain ⟨j', hj', rfl⟩ := hj
            have hlt : j < (els[i].drop off).length := by have := (List.getElem?_eq_some_iff.1 hj').1; simpa using this
            have : j' = j := by rw [List.getElem?_range hlt] at hj'; exact (Option.some.inj hj').symm
            subst this
            have hlt2 : off + j' < els[i].length := by simp at hlt; omega
            obtain ⟨z, hz, _⟩ := hcs i (off + j') _ _ (List.getElem?_eq_getElem hi) (List.getElem?_eq_getElem hlt2)
            rw [cell_heap hh, show i * β.sz + off + j' = i * β.sz + (off + j') by omega, hz, List.getD_eq_getElem?_getD, hz, Option.getD_some]
          · intro j c y hc hj
            simp only [List.getElem?_map, Option.map_eq_some_iff] at hj
            obtain ⟨j', hj', rfl⟩ := hj
            have hlt := (List.getElem?_eq_some_iff.1 hc).1
            have : j' = j := by rw [List.getElem?_range hlt] at hj'; exact (Option.some.inj hj').symm
            subst this
            rw [List.getElem?_drop] at hc
            obtain ⟨z, hz, rz⟩ := hcs i (off + j') _ _ (List.getElem?_eq_getElem hi) hc
            rw [List.getD_eq_getElem?_getD, hz, Option.getD_some]
            exact rz.closed ι
        · exact hk.elim
      · exact hk.elim
  · exact hk.elim

theorem goes_store (h : St w0 m0 N m ι e s a w) {t : TypeId} {x y : Operand} (ho : o.op = .store t x y) (hx : okX x = true) (hy : okX y = true) (hk : opK P e s o K) : Goes P o a w (Lv w0 m0 N e a K) := by
  simp only [opK, ho] at hk
  have rx := h.at hx
  have ry := h.at hy
  generalize hvx : a.eval x = vx at *
  generalize hvy : a.eval y = vy at *
  generalize ev e x = ux at *
  generalize ev e y = uy at *
  split at hk
  · rename_i id off new n hnew hn
    have rn := ry.cells hnew
    have leaf1 : new.all leafV = true → ∀ v ∈ vy.cells.toList, v.oneCell' = true := by
      intro hall v hv
      obtain ⟨i, hi, rfl⟩ := List.mem_iff_getElem.1 hv
      have hi' : i < new.length := rn.1 ▸ hi
      exact leafV_one (rn.2 i _ _ (List.getElem?_eq_getElem hi') (List.getElem?_eq_getElem hi)) (List.all_eq_true.1 hall _ (List.getElem_mem hi'))
    cases rx with
    | ptr _ _ _ β hβ =>
      rw [at?_eq] at hk
      split at hk
      · rename_i cs hs
        split at hk
        · rename_i h1 h2 h3
          have h1 := Nat.eq_of_beq_eq_true h1
          have h2 := Nat.le_of_ble_eq_true h2
          obtain ⟨vs, et, fr, hh, hcs, hfr, hmn⟩ := h.obj id _ β hs hβ
          have hst := run_stores (P := P) (o := off) vy.cells.toList 0 vs w hh (by rw [← rn.1, ← hcs.1]; simpa using h2) hfr (leaf1 h3)
          have hsz : vy.cells.size = n := by rw [← h1, rn.1]; simp
          have hrun : (execOp a.eval o).run P w = .ok .skip (wset w β.blk (.cells (vs.take off ++ vy.cells.toList ++ vs.drop (off + vy.cells.toList.length)).toArray et fr)) := by
            simp only [execOp, ho, hvx, hvy, Instr.storeAt, Instr.sureAddr, storeVar]
            simp [run_size hn, hsz]
            simpa [hsz] using congrArg (fun r : Result Unit => r.andThen fun _ w' => Result.ok Next.skip w') hst
          unfold Goes
          rw [hrun]
          rw [setAt_eq] at hk
          refine ⟨_, _, m, ι, hk, Rep.tupL (vs := []) (RepL.nil m ι), ?_⟩
          refine h.write hs hβ (by simp) (by simp) (hmn rfl) ⟨vs.take off ++ vy.cells.toList ++ vs.drop (off + vy.cells.toList.length), et, fr, ?_, hcs.splice rn off, ?_, fun _ => hmn rfl⟩
          · rw [wset_heap, if_pos rfl, if_pos (h.own id _ β hs hβ (by simp)).2]
          · intro i hi
            apply hfr i
            have : (vs.take off ++ vy.cells.toList ++ vs.drop (off + vy.cells.toList.length)).length = vs.length := by
              simp only [List.length_append, List.length_take, List.length_drop, ← rn.1, ← hcs.1]
              omega
            rw [this] at hi
            exact hi
        · exact hk.elim
      · exact hk.elim
  · rename_i id i off new n hnew hn
    have rn := ry.cells hnew
    have leaf1 : new.all leafV = true → ∀ v ∈ vy.cells.toList, v.oneCell' = true := by
      intro hall v hv
      obtain ⟨i, hi, rfl⟩ := List.mem_iff_getElem.1 hv
      have hi' : i < new.length := rn.1 ▸ hi
      exact leafV_one (rn.2 i _ _ (List.getElem?_eq_getElem hi') (List.getElem?_eq_getElem hi)) (List.all_eq_true.1 hall _ (List.getElem_mem hi'))
    cases rx with
    | eptr _ _ _ _ β hβ =>
      rw [at?_eq] at hk
      split at hk
      · rename_i sz els hs
        obtain ⟨⟨hi⟩, hk⟩ := hk
        have hk := hk _ (List.getElem?_eq_getElem hi)
        split at hk
        · rename_i h1 h2 h3
          have h1 := Nat.eq_of_beq_eq_true h1
          have h2 := Nat.le_of_ble_eq_true h2
          obtain ⟨vs, et, fr, rfl, hh, hvl, hcap, hnn, hel, hsz, hcs, hfr, hml, hmn⟩ := h.obj id _ β hs hβ
          have hes := hsz _ (List.getElem_mem hi)
          have hin : i * β.sz + β.sz ≤ vs.length := by
            rw [hvl]
            have : (i + 1) * β.sz ≤ β.cap * β.sz := Nat.mul_le_mul_right _ (by omega)
            rwa [Nat.add_mul, Nat.one_mul] at this
          have hst := run_stores (P := P) (o := i * β.sz + off) vy.cells.toList 0 vs w hh (by rw [← rn.1]; omega) hfr (leaf1 h3)
          have hsz' : vy.cells.size = n := by rw [← h1, rn.1]; simp
          have hrun : (execOp a.eval o).run P w = .ok .skip (wset w β.blk (.cells (vs.take (i * β.sz + off) ++ vy.cells.toList ++ vs.drop (i * β.sz + off + vy.cells.toList.length)).toArray et fr)) := by
            simp only [execOp, ho, hvx, hvy, Instr.storeAt, Instr.sureAddr, storeVar]
            simp [run_size hn, hsz']
            simpa [hsz'] using congrArg (fun r : Result Unit => r.andThen fun _ w' => Result.ok Next.skip w') hst
          have hlen : (vs.take (i * β.sz + off) ++ vy.cells.toList ++ vs.drop (i * β.sz + off + vy.cells.toList.length)).length = vs.length := by
            simp only [List.length_append, List.length_take, List.length_drop, ← rn.1]
            omega
          unfold Goes
          rw [hrun]
          simp only [setAt_eq] at hk
          refine ⟨_, _, m, ι, hk, Rep.tupL (vs := []) (RepL.nil m ι), ?_⟩
          refine h.write hs hβ (by simp) (by simp) (hmn rfl) ⟨_, et, fr, rfl, by rw [wset_heap, if_pos rfl, if_pos (h.own id _ β hs hβ (by simp)).2], by rw [hlen]; exact hvl, by simpa using hcap, by simpa using hnn, by simpa using hel, ?_, ?_, fun k hk => hfr k (hlen ▸ hk), fun k _ => hmn rfl k, fun _ => hmn rfl⟩
          · intro el hel'
            rcases List.mem_or_eq_of_mem_set hel' with q | q
            · exact hsz el q
            · subst q
              have hl := rn.1
              simp only [Ab.splice, List.length_append, List.length_take, List.length_drop, List.length_map]
              omega
          · intro i' j el c hi' hj
            rw [List.getElem?_set] at hi'
            have rn0 : RepL m [] (new.map (ren 8 [])) vy.cells.toList := ⟨by simpa using rn.1, fun k c z hc hz => by
              simp only [List.getElem?_map, Option.map_eq_some_iff] at hc
              obtain ⟨c', hc', rfl⟩ := hc
              exact Rep.renamed (κ := []) (g := []) (by simp) 8 _ _ (rn.2 k c' z hc' hz)⟩
            have old : ∀ {k j : Nat} {el : List V} {c : V}, els[k]? = some el → el[j]? = some c → (k * β.sz + j < i * β.sz + off ∨ i * β.sz + off + new.length ≤ k * β.sz + j) →
                ∃ x, (vs.take (i * β.sz + off) ++ vy.cells.toList ++ vs.drop (i * β.sz + off + vy.cells.toList.length))[k * β.sz + j]? = some x ∧ Rep m [] c x := by
              intro k j el c hk hj hor
              obtain ⟨x, hx, rx⟩ := hcs k j el c hk hj
              refine ⟨x, ?_, rx⟩
              have hlt := (List.getElem?_eq_some_iff.1 hx).1
              have hnl := rn.1
              rcases hor with q | q
              · rw [List.append_assoc, List.getElem?_append_left (by rw [List.length_take]; omega), List.getElem?_take, if_pos q]
                exact hx
              · rw [List.getElem?_append_right (by simp only [List.length_append, List.length_take]; omega), List.getElem?_drop]
                rw [← hx]
                congr 1
                simp only [List.length_append, List.length_take]
                omega
            split at hi'
            · rename_i hii
              subst hii
              obtain rfl := Option.some.inj hi'
              have hnl := rn.1
              by_cases q : off ≤ j ∧ j < off + new.length
              · obtain ⟨z, hz, rz⟩ := rn0.get (i := j - off) (c := c) (by
                  unfold Ab.splice at hj
                  rw [List.append_assoc, List.getElem?_append_right (by rw [List.length_take]; omega), List.getElem?_append_left (by simp only [List.length_take, List.length_map]; omega)] at hj
                  rw [← hj]
                  congr 1
                  rw [List.length_take]
                  omega)
                refine ⟨z, ?_, rz⟩
                rw [List.append_assoc, List.getElem?_append_right (by rw [List.length_take]; omega), List.getElem?_append_left (by simp only [List.length_take]; omega)]
                rw [← hz]
                congr 1
                rw [List.length_take]
                omega
              · have hj' : els[i][j]? = some c := by
                  unfold Ab.splice at hj
                  rcases Nat.lt_or_ge j off with hjo | hjo
                  · rw [List.append_assoc, List.getElem?_append_left (by rw [List.length_take]; omega), List.getElem?_take, if_pos hjo] at hj
                    exact hj
                  · rw [List.getElem?_append_right (by simp only [List.length_append, List.length_take, List.length_map]; omega), List.getElem?_drop] at hj
                    rw [← hj]
                    congr 1
                    simp only [List.length_append, List.length_take, List.length_map]
                    omega
                have hjl := (List.getElem?_eq_some_iff.1 hj').1
                exact old (List.getElem?_eq_getElem hi) hj' (by omega)
            · rename_i hii
              have hjl := (List.getElem?_eq_some_iff.1 hj).1
              have hel' := hsz _ (List.mem_of_getElem? hi')
              refine old hi' hj ?_
              rcases Nat.lt_or_gt_of_ne hii with q | q
              · have : (i + 1) * β.sz ≤ i' * β.sz := Nat.mul_le_mul_right _ q
                rw [Nat.add_mul, Nat.one_mul] at this
                omega
              · have : (i' + 1) * β.sz ≤ i * β.sz := Nat.mul_le_mul_right _ q
                rw [Nat.add_mul, Nat.one_mul] at this
                omega
        · exact hk.elim
      · exact hk.elim
  · exact hk.elim
end
end Go.Proofs.Ytkkfclpodgagdaa.Ab
