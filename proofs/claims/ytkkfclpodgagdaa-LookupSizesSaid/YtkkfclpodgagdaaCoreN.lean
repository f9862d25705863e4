/- The machine's operations do what the rules say: struct, array and slice literals. -/
import Derived.Test.YtkkfclpodgagdaaCoreM
import Derived.Laws.Tables
namespace Go.Proofs.Ytkkfclpodgagdaa.Ab
open Go.RowKit
set_option linter.unusedVariables false
set_option linter.unusedSimpArgs false

section
variable {P : Program} {w0 : World} {m0 : Mem} {N : Nat} {m : Mem} {ι : List Blk} {e : Env} {s : List O} {a : Act} {w : World} {o : Oper} {K : V → List O → Prop}

theorem set_all (off : Nat) : ∀ (new : List Value) (k : Nat) (cells : Array Value), off + k + new.length ≤ cells.size →
    ((new.zipIdx k).foldl (fun cs x => cs.setIfInBounds (off + x.2) x.1) cells).toList = cells.toList.take (off + k) ++ new ++ cells.toList.drop (off + k + new.length)
  | [], k, cells, h => by simp
  | v :: new, k, cells, h => by
    simp only [List.length_cons] at h
    have hi : off + k < cells.toList.length := by simp; omega
    have ih := set_all off new (k + 1) (cells.setIfInBounds (off + k) v) (by simp; omega)
    simp only [List.zipIdx_cons, List.foldl_cons]
    rw [ih]
    have e3 : (cells.toList.set (off + k) v).take (off + (k + 1)) = cells.toList.take (off + k) ++ [v] := by
      rw [show off + (k + 1) = off + k + 1 by omega, List.take_succ_eq_append_getElem (by simpa using hi), List.getElem_set_self, List.take_set, List.set_eq_of_length_le (by rw [List.length_take]; omega)]
    rw [Array.toList_setIfInBounds, e3, List.drop_set_of_lt (show off + k < off + (k + 1) + new.length by omega), show off + (k + 1) + new.length = off + k + (new.length + 1) by omega]
    simp only [List.append_assoc, List.singleton_append, List.cons_append, List.nil_append, List.length_cons]

/-- One part put in its place. -/
theorem fill_one {place : Nat → Option (Nat × Nat)} {i off n : Nat} {v : Value} (hp : place i = some (off, n)) (hs : v.cells.size = n) {cells : Array Value} (hl : off + n ≤ cells.size) (rest : List (Nat × Value)) :
    Instr.fill place cells ((i, v) :: rest) = Instr.fill place (cells.toList.take off ++ v.cells.toList ++ cells.toList.drop (off + v.cells.toList.length)).toArray rest := by
  have h1 : ¬ (v.cells.size ≠ n || off + v.cells.size > cells.size) = true := by simp [hs]; omega
  simp only [Instr.fill, hp]
  rw [if_neg h1]
  congr 1
  apply Array.ext'
  rw [← Array.foldl_toList, Array.toList_zipIdx]
  have := set_all off v.cells.toList 0 cells (by simp; omega)
  simpa using this

/-- Parts of a literal and their values. -/
inductive Parts (m : Mem) (ι : List Blk) : List (Nat × V) → List (Nat × Value) → Prop
  | nil : Parts m ι [] []
  | cons (i : Nat) (v : V) (x : Value) (r : Rep m ι v x) (ps : List (Nat × V)) (qs : List (Nat × Value)) (h : Parts m ι ps qs) : Parts m ι ((i, v) :: ps) ((i, x) :: qs)
theorem Parts.map {α : Type} {m : Mem} {ι : List Blk} (f : α → V) (g : α → Value) : ∀ (l : List (Nat × α)), (∀ q ∈ l, Rep m ι (f q.2) (g q.2)) → Parts m ι (l.map fun q => (q.1, f q.2)) (l.map fun q => (q.1, g q.2))
  | [], _ => .nil
  | q :: l, h => .cons _ _ _ (h q List.mem_cons_self) _ _ (Parts.map f g l fun x hx => h x (List.mem_cons_of_mem _ hx))

theorem fillS_sound {fs : Array Field} {place : Nat → Option (Nat × Nat)} (hp : ∀ (i : Nat) f n, fs[i]? = some f → szT P f.type = some n → place i = some (f.offset, n)) {ps : List (Nat × V)} {qs : List (Nat × Value)} (r : Parts m ι ps qs) :
    ∀ (cs cs' : List V) (cells : Array Value), RepL m ι cs cells.toList → fillS P fs cs ps = some cs' → ∃ cells', Instr.fill place cells qs = some cells' ∧ RepL m ι cs' cells'.toList := by
  induction r with
  | nil =>
    intro cs cs' cells rc h
    simp only [fillS, Option.some.injEq] at h
    subst h
    exact ⟨cells, rfl, rc⟩
  | cons i v x rv ps qs _ ih =>
    intro cs cs' cells rc h
    simp only [fillS] at h
    split at h
    · rename_i f new hf hnew
      split at h
      · rename_i n hn
        split at h
        · rename_i h1 h2
          have h1 := Nat.eq_of_beq_eq_true h1
          have h2 := Nat.le_of_ble_eq_true h2
          have rn := rv.cells hnew
          have hsz : x.cells.size = n := by rw [← h1, rn.1]; simp
          have hcl : cs.length = cells.size := by rw [rc.1]; simp
          rw [fill_one (hp i f n hf hn) hsz (by omega)]
          exact ih _ _ _ (by simpa using rc.splice rn f.offset) h
        · cases h
      · cases h
    · cases h
theorem fillA_sound {sz : Nat} {ps : List (Nat × V)} {qs : List (Nat × Value)} (r : Parts m ι ps qs) :
    ∀ (cs cs' : List V) (cells : Array Value), RepL m ι cs cells.toList → fillA sz cs ps = some cs' → ∃ cells', Instr.fill (fun i => some (i * sz, sz)) cells qs = some cells' ∧ RepL m ι cs' cells'.toList := by
  induction r with
  | nil =>
    intro cs cs' cells rc h
    simp only [fillA, Option.some.injEq] at h
    subst h
    exact ⟨cells, rfl, rc⟩
  | cons i v x rv ps qs _ ih =>
    intro cs cs' cells rc h
    simp only [fillA] at h
    split at h
    · rename_i new hnew
      split at h
      · rename_i h1 h2
        have h1 := Nat.eq_of_beq_eq_true h1
        have h2 := Nat.le_of_ble_eq_true h2
        have rn := rv.cells hnew
        have hsz : x.cells.size = sz := by rw [← h1, rn.1]; simp
        have hcl : cs.length = cells.size := by rw [rc.1]; simp
        rw [fill_one (n := sz) (off := i * sz) rfl hsz (by omega)]
        exact ih _ _ _ (by simpa using rc.splice rn (i * sz)) h
      · cases h
    · cases h
theorem Flat.set {sz : Nat} {els : List (List V)} {vs new' : List Value} {new : List V} {i : Nat} (f : Flat m sz els vs) (hi : i < els.length) (rn : RepL m [] new new') (hn : new.length = sz) :
    Flat m sz (els.set i new) (vs.take (i * sz) ++ new' ++ vs.drop (i * sz + new'.length)) := by
  have hnl := rn.1
  have hle : (i + 1) * sz ≤ els.length * sz := Nat.mul_le_mul_right _ hi
  rw [Nat.add_mul, Nat.one_mul, ← f.len] at hle
  refine ⟨?_, fun el he => ?_, fun k j el c hk hj => ?_⟩
  · simp only [List.length_append, List.length_take, List.length_drop, List.length_set, ← f.len]
    omega
  · rcases List.mem_or_eq_of_mem_set he with q | q
    · exact f.each el q
    · subst q; exact hn
  · rw [List.getElem?_set] at hk
    have hjl := (List.getElem?_eq_some_iff.1 hj).1
    split at hk
    · rename_i hki
      subst hki
      obtain rfl := Option.some.inj hk
      obtain ⟨x, hx, rx⟩ := rn.get hj
      refine ⟨x, ?_, rx⟩
      rw [List.append_assoc, List.getElem?_append_right (by rw [List.length_take]; omega), List.getElem?_append_left (by rw [List.length_take]; omega), ← hx]
      congr 1
      rw [List.length_take]
      omega
    · rename_i hki
      obtain ⟨x, hx, rx⟩ := f.rep k j el c hk hj
      refine ⟨x, ?_, rx⟩
      have hlt := (List.getElem?_eq_some_iff.1 hx).1
      have hel := f.each el (List.mem_of_getElem? hk)
      rcases Nat.lt_or_gt_of_ne hki with q | q
      · have : (i + 1) * sz ≤ k * sz := Nat.mul_le_mul_right _ q
        rw [Nat.add_mul, Nat.one_mul] at this
        rw [List.getElem?_append_right (by simp only [List.length_append, List.length_take]; omega), List.getElem?_drop, ← hx]
        congr 1
        simp only [List.length_append, List.length_take]
        omega
      · have : (k + 1) * sz ≤ i * sz := Nat.mul_le_mul_right _ q
        rw [Nat.add_mul, Nat.one_mul] at this
        rw [List.append_assoc, List.getElem?_append_left (by rw [List.length_take]; omega), List.getElem?_take, if_pos (by omega)]
        exact hx
theorem fillR_sound {sz : Nat} {ps : List (Nat × V)} {qs : List (Nat × Value)} (r : Parts m [] ps qs) :
    ∀ (els els' : List (List V)) (cells : Array Value), Flat m sz els cells.toList → fillR sz els ps = some els' → ∃ cells', Instr.fill (fun i => some (i * sz, sz)) cells qs = some cells' ∧ Flat m sz els' cells'.toList ∧ els'.length = els.length := by
  generalize hι : ([] : List Blk) = ι0 at r
  induction r with
  | nil =>
    intro els els' cells rc h
    simp only [fillR, Option.some.injEq] at h
    subst h
    exact ⟨cells, rfl, rc, rfl⟩
  | cons i v x rv ps qs _ ih =>
    intro els els' cells rc h
    subst hι
    simp only [fillR] at h
    split at h
    · rename_i new hnew
      split at h
      · rename_i h1 h2
        have h1 := Nat.eq_of_beq_eq_true h1
        have h2 : i < els.length := Nat.le_of_ble_eq_true h2
        have rn := rv.cells hnew
        have hsz : x.cells.size = sz := by rw [← h1, rn.1]; simp
        have hle : (i + 1) * sz ≤ els.length * sz := Nat.mul_le_mul_right _ h2
        rw [Nat.add_mul, Nat.one_mul, ← rc.len, Array.length_toList] at hle
        rw [fill_one (n := sz) (off := i * sz) rfl hsz (by omega)]
        rw [setAt_eq] at h
        have f2 := rc.set h2 rn h1
        obtain ⟨c', q1, q2, q3⟩ := ih _ _ (cells.toList.take (i * sz) ++ x.cells.toList ++ cells.toList.drop (i * sz + x.cells.toList.length)).toArray f2 h
        exact ⟨c', q1, q2, by simpa using q3⟩
      · cases h
    · cases h

theorem parts_ok {t : TypeId} {ps : Array (Nat × Operand)} (h : St w0 m0 N m ι e s a w) (hc : (ps.toList.map (·.2)).all okX = true) :
    Parts m ι (ps.toList.map fun q => (q.1, ev e q.2)) (ps.map fun q => (q.1, a.eval q.2)).toList := by
  rw [Array.toList_map]
  exact Parts.map (ev e) a.eval ps.toList fun q hq => h.at (List.all_eq_true.1 hc _ (List.mem_map_of_mem hq))

theorem mapM_places : ∀ (fs : List Field) (places : List (Nat × Nat)), fs.mapM (fun f => (P.info? f.type).map fun i => (f.offset, i.size)) = some places →
    ∀ (i : Nat) f n, fs[i]? = some f → szT P f.type = some n → places[i]? = some (f.offset, n)
  | [], places, h, i, f, n, hf, _ => by simp at hf
  | g :: fs, places, h, i, f, n, hf, hn => by
    simp only [List.mapM_cons, Option.bind_eq_bind, Option.pure_def] at h
    cases hi : P.info? g.type with
    | none => simp [hi] at h
    | some inf =>
      cases hr : fs.mapM (fun f => (P.info? f.type).map fun i => (f.offset, i.size)) with
      | none => simp [hi, hr] at h
      | some rest =>
        simp [hi, hr] at h
        subst h
        cases i with
        | zero =>
          simp at hf
          subst hf
          simp [szT, hi] at hn
          simp [hn]
        | succ i => simpa using mapM_places fs rest hr i f n (by simpa using hf) hn

theorem goes_build (h : St w0 m0 N m ι e s a w) {t : TypeId} {ps : Array (Nat × Operand)} (ho : o.op = .build t ps) (hc : (ps.toList.map (·.2)).all okX = true) (hz : zOk P t = true)
    (hpl : (match P.underlying t with | some (.struct fs) => (fs.toList.mapM (fun f => (P.info? f.type).map fun i => (f.offset, i.size))).isSome | _ => true) = true) (hk : opK P e s o K) : Goes P o a w (Lv w0 m0 N e a K) := by
  simp only [opK, ho] at hk
  have rp := parts_ok (t := t) h hc
  have zero_ : ∀ {z : List V}, (zeroT P t).bind cellsV = some z → ∃ it zv, P.info? t = some it ∧ it.zero = some zv ∧ RepL m ι z zv.cells.toList := by
    intro z hzz
    rw [Option.bind_eq_some_iff] at hzz
    obtain ⟨zz, hz1, hz2⟩ := hzz
    unfold zeroT at hz1
    rw [Option.map_eq_some_iff] at hz1
    obtain ⟨zv, hzv, rfl⟩ := hz1
    rw [Option.bind_eq_some_iff] at hzv
    obtain ⟨it, hit, hzv⟩ := hzv
    have hok : cOk zv = true := by simpa [zOk, hit, hzv] using hz
    exact ⟨it, zv, hit, hzv, (ofC_rep m ι zv hok).cells hz2⟩
  have fin : ∀ {cells' : Array Value} {cs : List V}, P.built t (ps.map fun q => (q.1, a.eval q.2)).toList = some cells' → RepL m ι cs cells'.toList → K (.agg cs) s → Goes P o a w (Lv w0 m0 N e a K) := by
    intro cells' cs hb r k
    have hrun := run_build (P := P) w t (ps.map fun q => (q.1, a.eval q.2)) cells' hb
    have ra := Rep.aggL r
    rw [Array.toArray_toList] at ra
    exact Goes.here h (by simp [execOp, ho]; simpa using congrArg (fun r : Result Value => r.andThen fun v w => Result.ok (Next.value v) w) hrun) ra k
  split at hk
  · rename_i fs z hu hzz
    split at hk
    · rename_i cs hcs
      obtain ⟨it, zv, hit, hzv, rz⟩ := zero_ hzz
      rw [hu] at hpl
      obtain ⟨places, hpl2⟩ := Option.isSome_iff_exists.1 hpl
      obtain ⟨cells', h1, h2⟩ := fillS_sound (P := P) (fs := fs) (place := (places.toArray[·]?)) (fun i f n hf hn => by
        have := mapM_places (P := P) _ _ hpl2 i f n (by simpa using hf) hn
        simpa using this) rp z cs zv.cells rz hcs
      exact fin (by simp only [Program.built, hit, hu, hzv, hpl2]; exact h1) h2 hk
    · exact hk.elim
  · rename_i n el z hu hzz
    split at hk
    · rename_i sz hsz
      split at hk
      · rename_i cs hcs
        obtain ⟨it, zv, hit, hzv, rz⟩ := zero_ hzz
        unfold szT at hsz
        rw [Option.map_eq_some_iff] at hsz
        obtain ⟨ie, hie, rfl⟩ := hsz
        obtain ⟨cells', h1, h2⟩ := fillA_sound rp z cs zv.cells rz hcs
        exact fin (by simp only [Program.built, hit, hu, hzv, hie]; exact h1) h2 hk
      · exact hk.elim
    · exact hk.elim
  · exact hk.elim

/-- A new block that no one writes. -/
def addB (m : Mem) (b : Nat) (vs : List Value) : Mem := fun b' o => if b' = b then vs[o]? else m b' o
theorem St.newRow (h : St w0 m0 N m ι e s a w) {els : List (List V)} {vs : List Value} {sz : Nat} (f : Flat m sz els vs) (hl : els.length ≤ 9223372036854775807) (t : TypeId) :
    m.le (addB m w.heap.size vs) ∧ Rep (addB m w.heap.size vs) ι (.row true els) (.slice (some ⟨w.heap.size, 0, none⟩) els.length els.length) ∧ St w0 m0 N (addB m w.heap.size vs) ι e s a (wnew w vs t) := by
  have hle : m.le (addB m w.heap.size vs) := fun b o v hv => by
    have := h.mok.lt hv
    unfold addB
    rw [if_neg (by omega)]
    exact hv
  refine ⟨hle, ?_, h.grow hle ?_ (below_new w vs t) ?_⟩
  · refine .row ι true els _ els.length sz w.heap.size 0 (fun i j => vs.getD (i * sz + j) undef) (fun _ => rfl) (Nat.le_refl _) hl f.each (fun _ => rfl) ?_ ?_
    · intro i j el c hi hj
      obtain ⟨x, hx, _⟩ := f.rep i j el c hi hj
      simp only [addB, Nat.zero_add, if_pos rfl]
      rw [List.getD_eq_getElem?_getD, hx]
      rfl
    · intro i j el c hi hj
      obtain ⟨x, hx, rx⟩ := f.rep i j el c hi hj
      rw [List.getD_eq_getElem?_getD, hx]
      exact rx.mono hle
  · intro b o v hv
    unfold addB at hv
    split at hv
    · rename_i hb
      subst hb
      rw [cell_heap (wnew_at w vs t)]
      exact hv
    · rename_i hb
      have := h.mok.lt hv
      rw [World.cell?_of_block (w := w) (a := ⟨b, o, none⟩) ((below_new w vs t).block b this)]
      exact h.mok b o v hv
  · intro b o x hx hn
    unfold addB at hx
    split at hx
    · omega
    · rw [hn] at hx; cases hx

theorem goes_buildSlice (h : St w0 m0 N m ι e s a w) {t : TypeId} {len : Nat} {ps : Array (Nat × Operand)} (ho : o.op = .buildSlice t len ps) (hc : (ps.toList.map (·.2)).all okX = true)
    (hz : (match P.underlying t with | some (.slice el) => zOk P el | _ => true) = true) (hk : opK P e s o K) : Goes P o a w (Lv w0 m0 N e a K) := by
  simp only [opK, ho] at hk
  split at hk
  · rename_i el hu
    rw [hu] at hz
    split at hk
    · rename_i z n hzz hn
      split at hk
      · rename_i els h1 h2 h3 h4
        have h1 := Nat.le_of_ble_eq_true h1
        have h2 := Nat.eq_of_beq_eq_true h2
        have h3 : 0 < n := Nat.le_of_ble_eq_true h3
        rw [Option.bind_eq_some_iff] at hzz
        obtain ⟨zz, hz1, hz2⟩ := hzz
        obtain ⟨zv, hzv, rfl, hok⟩ := run_zero (w := w) hz1 hz
        have rvs : RepL m ι (ps.toList.map fun q => ev e q.2) ((ps.map fun q => a.eval q.2).toList) := by
          rw [Array.toList_map]
          exact RepL.map _ _ _ fun q hq => h.at (List.all_eq_true.1 hc _ (List.mem_map_of_mem hq))
        obtain ⟨m', hle, h', rl'⟩ := h.freeze rvs
        have rp : Parts m' [] (ps.toList.map fun q => (q.1, frz 8 s (ev e q.2))) (ps.map fun q => (q.1, a.eval q.2)).toList := by
          rw [Array.toList_map]
          refine Parts.map (fun x => frz 8 s (ev e x)) a.eval ps.toList fun q hq => ?_
          obtain ⟨i, hi, rfl⟩ := List.mem_iff_getElem.1 hq
          exact rl'.2 i _ _ (by rw [List.getElem?_map, List.getElem?_map, List.getElem?_eq_getElem hi]; rfl) (by rw [Array.toList_map, List.getElem?_map, List.getElem?_eq_getElem hi]; rfl)
        have rz : RepL m' [] z zv.cells.toList := (ofC_rep m' [] zv hok).cells hz2
        have hzn : zv.cells.size = n := by rw [← h2, rz.1]; simp
        have f0 : Flat m' n (List.replicate len z) ((Array.range (len * n)).map (zv.cells[· % zv.cells.size]!)).toList := by
          refine ⟨by simp, fun el he => by rw [List.eq_of_mem_replicate he, h2], fun i j el' c hi hj => ?_⟩
          have hil : i < len := by have := (List.getElem?_eq_some_iff.1 hi).1; simpa using this
          rw [List.getElem?_replicate, if_pos hil] at hi
          obtain rfl := Option.some.inj hi
          obtain ⟨x, hx, rx⟩ := rz.get hj
          refine ⟨x, ?_, rx⟩
          have hjn : j < n := by have := (List.getElem?_eq_some_iff.1 hj).1; omega
          have hb : i * n + j < len * n := by
            have : (i + 1) * n ≤ len * n := Nat.mul_le_mul_right _ hil
            rw [Nat.add_mul, Nat.one_mul] at this
            omega
          have hm : (i * n + j) % n = j := by rw [Nat.add_comm, Nat.add_mul_mod_self_right, Nat.mod_eq_of_lt hjn]
          have hx2 : zv.cells[j]? = some x := by simpa using hx
          have hb2 : zv.cells[j]! = x := by
            rw [Array.getElem!_eq_getD, Array.getD_eq_getD_getElem?, hx2]
            rfl
          simp [hb, hzn, hm, hb2]
        obtain ⟨cells', hf1, hf2, hf3⟩ := fillR_sound rp _ _ _ f0 h4
        have hlen : els.length = len := by rw [hf3]; simp
        have hle2 : len ≤ 16777216 := Nat.le_trans (Nat.le_mul_of_pos_right _ h3) h1
        obtain ⟨hle3, rr, h''⟩ := h'.newRow hf2 (by omega) el
        unfold Goes
        have hrun : (execOp a.eval o).run P w = .ok (.value (.slice (some ⟨w.heap.size, 0, none⟩) len len)) (wnew w cells'.toList el) := by
          have hnot : ¬ (len * n > 2 ^ 24) := by omega
          have hb : (Instr.buildSlice t len (ps.map fun q => (q.1, a.eval q.2))).run P w = .ok (.slice (some ⟨w.heap.size, 0, none⟩) len len) (wnew w cells'.toList el) := by
            simp only [Instr.buildSlice, Sem.run_bind, run_und hu, Result.andThen_ok, run_size hn, if_neg hnot, Sem.run_ite, Sem.run_pure]
            by_cases q : len * n = 0
            · have e0 : (Array.range (len * n)).map (fun x => (#[] : Array Value)[x % (#[] : Array Value).size]!) = (Array.range (len * n)).map (fun x => zv.cells[x % zv.cells.size]!) := by
                apply Array.ext
                · simp
                · intro i hi1 hi2
                  simp [q] at hi1
              rw [if_pos q, e0, hf1]
              simp [newRow, wnew]
            · rw [if_neg q, hzv]
              simp only [Result.andThen_ok, hf1]
              simp [newRow, wnew]
          simp only [execOp, ho, Sem.run_bind]
          simpa using congrArg (fun r : Result Value => r.andThen fun v w => Result.ok (Next.value v) w) hb
        rw [hrun]
        rw [hlen] at rr
        have e1 : ps.toList.flatMap (fun q => idl 8 s (ev e q.2)) = (ps.toList.map fun q => ev e q.2).flatMap (idl 8 s) := by simp [List.flatMap_map]
        refine ⟨_, _, _, ι, hk, rr, ?_⟩
        rw [e1]
        exact h''
      · exact hk.elim
    · exact hk.elim
  · exact hk.elim
end
end Go.Proofs.Ytkkfclpodgagdaa.Ab
