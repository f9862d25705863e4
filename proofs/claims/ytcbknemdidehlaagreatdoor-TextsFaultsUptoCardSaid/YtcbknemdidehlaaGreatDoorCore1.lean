/- The small reckoner, part 1. -/
import Derived.Laws.BytesArg
import Derived.Lib.ConvBytes
import Derived.Laws.Tables
import Derived.Test.YtcbknemdidehlaaGreatDoorCore0
namespace Go.Proofs.YtcbknemdidehlaaGreatDoor.Ab
open Go.RowKit
set_option linter.unusedVariables false
set_option linter.unusedSimpArgs false
section
variable {l : Bool} {P : Program} {w0 : Base} {m0 : Mem} {N : Nat} {m : Mem} {ι : List Blk} {e : Env} {s : List O} {a : Act} {w : World} {o : Oper} {K : V → List O → Prop}
theorem appendK_sound (h : St w0 m0 N m ι e s a w) {t u ty : TypeId} {d y : V} {dv yv : Value} (rd : Rep m ι d dv) (ry : Rep m ι y yv) (hk : appendK P t u d y s K) :
  ∃ x w', (Builtin.append_ #[t, u] ty #[dv, yv]).run P w = .ok x w' ∧ Lv w0 m0 N e a K x w' := by
 unfold appendK at hk
 split at hk
 ·rename_i el ht
  split at hk
  ·rename_i i hi
   split at hk
   ·rename_i z hz
    split at hk
    ·rename_i hq1 hq2
     have hzs := Nat.eq_of_beq_eq_true hq1
     split at hk
     ·rename_i e2 x new hu
      by_cases hall : ∀ q ∈ new, q.length = i.size
      ·obtain ⟨vs, p, cap, rfl, hc1, hx1, hl1, fl, src, _⟩ := row_cells (w := w) ry h.mok hall
       refine appendG_sound h ht hu (by simp) hi hz hzs rd (fun _ => ⟨fl, src⟩) (fun q => ?_) hk
       subst q
       have : vs = [] := List.eq_nil_of_length_eq_zero (by simpa using fl.len)
       subst this
       exact ⟨rfl, src⟩
      ·have hne : new ≠ [] := fun q => hall (by subst q; simp)
       refine appendG_sound (news := []) h ht hu (by simp) hi hz hzs rd (fun q => absurd q hall) (fun q => absurd q hne) hk
     ·rename_i e2 id off len hu
      cases ry with
      | sl _ _ _ _ p cap β hβ hl hc hn hb ha =>
       rw [at?_eq] at hk
       split at hk
       ·rename_i wr sz els hs
        split at hk
        ·rename_i hq3
         have hq3 := Nat.eq_of_beq_eq_true hq3
         subst hq3
         obtain ⟨vs, et, fr, hsz, hh, hvl, hcap, hnn, hel, hszs, hcs, ⟨hfo, hfr⟩, hml, hmn⟩ := h.obj id _ β hs hβ
         have hle : els.length * i.size ≤ vs.length := by rw [hvl]; exact Nat.mul_le_mul_right _ hcap
         have fl := Flat.part hcs hszs hle off len (by omega)
         have hlen : ((els.drop off).take len).length = len := by simp; omega
         have src : Src P w (.slice p len cap) len i.size ((vs.drop (off * i.size)).take (len * i.size)) := by
          by_cases hc0 : cap = 0
          ·have : len = 0 := by omega
           subst this
           simpa using src_none (P := P) (w := w) (a := p) (cap := cap) (sz := i.size)
          ·obtain rfl := ha hc0
           refine src_slice (by rw [fl.len, hlen]) fun j y hj => ?_
           rw [List.getElem?_take] at hj
           split at hj
           ·rw [List.getElem?_drop] at hj
            rw [cell_heap hh, ← hsz]
            exact hj
           ·cases hj
         refine appendG_sound h ht hu (by simp) hi hz hzs rd (fun _ => ⟨fl, by rw [hlen]; exact src⟩) (fun q => ?_) hk
         have h0 : len = 0 := by rw [← hlen, q]; rfl
         subst h0
         exact ⟨by simp, by simpa using src⟩
        ·exact hk.elim
       ·exact hk.elim
     ·rename_i b hu
      split at hk
      ·rename_i hq3
       have hq3 := Nat.eq_of_beq_eq_true hq3
       obtain ⟨rfl, hbs⟩ := ry.str_inv
       have src := src_string (P := P) (w := w) (b := b)
       refine appendG_sound (news := b.data.toList.map fun c => .int .u8 c.toNat) h ht hu (by simp) hi hz hzs rd (fun _ => ⟨by rw [hq3]; exact flat_bytes m b, by rw [hq3]; simpa using src⟩) (fun q => ?_) hk
       have hb0 : b.data.toList = [] := by simpa using q
       have hz0 : b.size = 0 := by
        have := congrArg List.length hb0
        simpa using this
       rw [hz0, hb0] at src
       rw [hq3]
       exact ⟨by simp [hb0], by simpa using src⟩
      ·exact hk.elim
     ·exact hk.elim
    ·exact hk.elim
   ·exact hk.elim
  ·exact hk.elim
 ·exact hk.elim
theorem lenK_sound (h : St w0 m0 N m ι e s a w) {t ty : TypeId} {x : V} {xv : Value} {K : V → Prop} (rx : Rep m ι x xv) (hk : lenK P t x s K) : ∃ v z, K v ∧ Rep m ι v z ∧ (Builtin.len_ #[t] ty #[xv]).run P w = .ok z w := by
 have big : ∀ n : Nat, n ≤ 9223372036854775807 → Rep m ι (.int .i64 (n : Int)) (goInt n) := fun n hn => .int _ _ _ (by rw [wrap_iff]; simp only [kLo, kHi]; omega)
 unfold lenK at hk
 split at hk
 ·rename_i hu
  split at hk
  ·rename_i b
   obtain ⟨rfl, hb⟩ := rx.str_inv
   exact ⟨_, _, hk hb, big _ hb, by simp [Builtin.len_, run_und hu]⟩
  ·exact hk.elim
 ·rename_i el hu
  split at hk
  ·rename_i xx els
   cases rx with
   | row _ _ _ p cap sz' b off g hx1 hc1 hl1 hs1 ha1 hm1 hr1 => exact ⟨_, _, hk hl1, big _ hl1, by simp [Builtin.len_, run_und hu]⟩
  ·rename_i id off len
   cases rx with
   | sl _ _ _ _ p cap β hβ hl hc hn hb ha => exact ⟨_, _, hk hb, big _ hb, by simp [Builtin.len_, run_und hu]⟩
  ·exact hk.elim
 ·rename_i n el hu
  obtain ⟨⟨hn⟩, hk⟩ := hk
  exact ⟨_, _, hk, big _ hn, by simp [Builtin.len_, run_und hu]⟩
 ·rename_i k el hu
  split at hk
  ·cases rx with
   | nilMap => exact ⟨_, _, hk, big 0 (by omega), by simp [Builtin.len_, run_und hu]⟩
  ·rename_i id
   rw [at?_eq] at hk
   cases rx with
   | map _ _ β hβ =>
    split at hk
    ·rename_i ck es hs
     obtain ⟨ms, hh, hR, hlen⟩ := h.obj id _ β hs hβ
     exact ⟨_, _, hk hlen, big _ hlen, by simp [Builtin.len_, run_und hu, MapKept.run_getObj_map hh, ← hR.1]⟩
    ·exact hk.elim
  ·exact hk.elim
 ·exact hk.elim
theorem maxmin_rep {k : IntKind} {p q : Int} (hp : k.wrap p = p) (hq : k.wrap q = q) : Rep m ι (.int k (if q > p then q else p)) (.int k (if q > p then q else p)) ∧ Rep m ι (.int k (if q < p then q else p)) (.int k (if q < p then q else p)) :=
 ⟨.int _ _ _ (by split <;> assumption), .int _ _ _ (by split <;> assumption)⟩
theorem lfz_leaf {v : Value} (h : lfz (leaf v) = true) : (∃ k n, v = .int k n) ∨ ∃ b, v = .string b := by
 unfold leaf at h
 split at h <;> first | exact .inl ⟨_, _, rfl⟩ | exact .inr ⟨_, rfl⟩ | exact absurd h (by simp [lfz])
theorem lfz_of {v : Value} (h : lfz (ofC v) = true) : v.cells = #[v] ∧ v.oneCell' = true ∧ cellsV (ofC v) = some [ofC v] ∧ Rep m [] (ofC v) v := by
 have hv : (∃ k n, v = .int k n) ∨ ∃ b, v = .string b := by
  unfold ofC at h
  split at h
  ·exact absurd h (by simp [lfz])
  ·exact absurd h (by simp [lfz])
  ·exact lfz_leaf h
 rcases hv with ⟨k, n, rfl⟩ | ⟨b, rfl⟩
 ·exact ⟨rfl, rfl, rfl, .int [] k n (by simpa [ofC, leaf, lfz] using h)⟩
 ·exact ⟨rfl, rfl, rfl, .str [] b (Nat.le_of_ble_eq_true (by simpa [ofC, leaf, lfz] using h))⟩
theorem mid_get {α : Type} {l : List α} {z : α} {off len i : Nat} (h : off + len ≤ l.length) : (l.take off ++ List.replicate len z ++ l.drop (off + len))[i]? = if off ≤ i ∧ i < off + len then some z else l[i]? := by
 by_cases h1 : i < off
 ·rw [List.append_assoc, List.getElem?_append_left (by simp; omega), List.getElem?_take, if_pos h1, if_neg (by omega)]
 ·by_cases h2 : i < off + len
  ·rw [if_pos (by omega), List.append_assoc, List.getElem?_append_right (by simp; omega), List.getElem?_append_left (by simp; omega), List.getElem?_replicate, if_pos (by simp; omega)]
  ·rw [if_neg (by omega), List.getElem?_append_right (by simp; omega), List.getElem?_drop]
   congr 1
   simp
   omega
theorem clearK_sound (h : St w0 m0 N m ι e s a w) {ts : Array TypeId} {ty : TypeId} {consts : Array Bool} {args : List V} {xs : List Value} (r : RepL m ι args xs) (hk : clearK P ts args s K) :
  ∃ x w', (builtin .clear ts ty consts xs.toArray).run P w = .ok (.value x) w' ∧ Lv w0 m0 N e a K x w' := by
 unfold clearK at hk
 split at hk
 ·rename_i t id off len ht
  split at hk
  ·rename_i el hu
   split at hk
   ·rename_i z els hz hs1 hs
    rw [at?_eq] at hs
    split at hk
    ·rename_i hlf
     obtain ⟨xv, hx, rx⟩ := r.get (i := 0) rfl
     obtain rfl : xs = [xv] := by
      have hl : xs.length = 1 := r.1.symm
      match xs, hl with
      | [y], _ => simpa using hx
     unfold zeroT at hz
     rw [Option.map_eq_some_iff] at hz
     obtain ⟨v, hv, rfl⟩ := hz
     rw [Option.bind_eq_some_iff] at hv
     obtain ⟨inf, hi, hv⟩ := hv
     have hzero : ∀ w, (zeroValue el).run P w = .ok v w := fun w => by simp [zeroValue, run_info hi, hv]
     obtain ⟨z1, z2, z3, z4⟩ := lfz_of (m := m) hlf
     have hgn : O.arr true 1 (els.take off ++ List.replicate len [ofC v] ++ els.drop (off + len)) ≠ .gone := by simp
     cases rx with
     | sl _ _ _ _ p cap β hβ hl hc hn hb ha =>
      obtain ⟨vs, et, fr, hsz, hh, hvl, hcap, hnn, hel, hszs, hcs, ⟨hfo, hfr⟩, hml, hmn⟩ := h.obj id _ β hs hβ
      have hbl : β.blk < w.heap.size := (h.own id _ β hs hβ (by simp)).2
      have hvl1 : vs.length = β.cap := by rw [hvl, Nat.mul_one]
      have hlen2 : (els.take off ++ List.replicate len [ofC v] ++ els.drop (off + len)).length = els.length := by simp; omega
      have ob : ∀ w' : World, w'.heap[β.blk]? = some (.cells (vs.take off ++ List.replicate len v ++ vs.drop (off + len)).toArray et fr) → Ob m ι w' β (.arr true 1 (els.take off ++ List.replicate len [ofC v] ++ els.drop (off + len))) := by
       intro w' hw'
       refine ⟨_, et, fr, hsz, hw', ?_, by rw [hlen2]; exact hcap, by rw [hlen2]; exact hnn, by rw [hlen2]; exact hel, ?_, ?_, ⟨hfo, ?_⟩, ?_, hmn⟩
       ·simp; omega
       ·intro x hx
        rw [List.append_assoc, List.mem_append, List.mem_append] at hx
        rcases hx with q | q | q
        ·exact hszs x (List.mem_of_mem_take q)
        ·rw [List.eq_of_mem_replicate q]; rfl
        ·exact hszs x (List.mem_of_mem_drop q)
       ·intro i j x c hi hj
        rw [mid_get (by omega)] at hi
        have hj0 : j = 0 := by
         have hl1 : x.length = 1 := by
          split at hi
          ·obtain rfl := Option.some.inj hi; rfl
          ·exact hszs x (List.mem_of_getElem? hi)
         have := (List.getElem?_eq_some_iff.1 hj).1
         omega
        subst hj0
        rw [Nat.mul_one, Nat.add_zero, mid_get (by omega)]
        split at hi
        ·rename_i hr
         obtain rfl := Option.some.inj hi
         rw [if_pos hr]
         simp at hj
         subst hj
         exact ⟨v, rfl, z4⟩
        ·rename_i hr
         rw [if_neg hr]
         obtain ⟨y, hy, ry⟩ := hcs i 0 x c hi hj
         rw [Nat.mul_one, Nat.add_zero] at hy
         exact ⟨y, hy, ry⟩
       ·intro i hi2
        exact hfr i (by simp at hi2; omega)
       ·intro o ho
        rw [hlen2] at ho
        exact hml o ho
      rcases Nat.eq_zero_or_pos len with h0 | h0
      ·subst h0
       refine ⟨.tuple #[], w, ?_, _, _, m, ι, hk, Rep.tupL (vs := []) (RepL.nil m ι), ?_⟩
       ·simp only [builtin, Sem.run_bind, Builtin.clear_, ht]
        cases p <;> simp [run_und hu]
       ·rw [setAt_eq]
        have e1 : s.set id (O.arr true 1 (els.take off ++ List.replicate 0 [ofC v] ++ els.drop (off + 0))) = s := by
         rw [List.replicate_zero, List.append_nil, Nat.add_zero, List.take_append_drop]
         apply List.ext_getElem?
         intro k
         rw [List.getElem?_set]
         by_cases q : id = k
         ·subst q
          rw [if_pos rfl, if_pos (List.getElem?_eq_some_iff.1 hs).1, hs]
         ·rw [if_neg q]
        rw [e1]
        exact h
      ·have hp := ha (by omega)
       subst hp
       have hsz1 : β.sz = 1 := hsz.symm
       have hoff : off * β.sz = off := by rw [hsz1, Nat.mul_one]
       have hzc : (Builtin.zeroCells v.cells len).toList = List.replicate len v := by
        rw [z1]
        simp [Builtin.zeroCells]
        apply List.ext_getElem
        ·simp
        ·intro i h1 h2
         simp [Nat.mod_one]
       have hst := run_stores (P := P) (b := β.blk) (o := off) (e := et) (fr := fr) (List.replicate len v) 0 vs w hh (by simp; omega) hfr (fun u hu' => by rw [List.eq_of_mem_replicate hu']; exact z2)
       simp only [Nat.add_zero, List.length_replicate] at hst
       have hrun : (builtin .clear ts ty consts #[.slice (some ⟨β.blk, off * β.sz, none⟩) len cap]).run P w = .ok (.value (.tuple #[])) (wset w β.blk (.cells (vs.take off ++ List.replicate len v ++ vs.drop (off + len)).toArray et fr)) := by
        rw [hoff]
        obtain ⟨k, rfl⟩ : ∃ k, len = k + 1 := ⟨len - 1, by omega⟩
        simp [builtin, Builtin.clear_, ht, run_und hu, hzero, hzc, hst]
       refine ⟨.tuple #[], _, hrun, _, _, m, ι, hk, Rep.tupL (vs := []) (RepL.nil m ι), ?_⟩
       rw [setAt_eq]
       refine h.write hs hβ (by simp) hgn (fun k => hmn rfl k) (ob _ ?_)
       rw [wset_heap, if_pos rfl, if_pos hbl]
    ·exact hk.elim
   ·exact hk.elim
  ·exact hk.elim
 ·exact hk.elim
theorem builtinK_sound (h : St w0 m0 N m ι e s a w) {b : Builtin} {ts : Array TypeId} {ty : TypeId} {consts : Array Bool} {args : List V} {xs : List Value} (r : RepL m ι args xs) (hts : ts.size = xs.length) (hk : builtinK P b ts args s K) :
  ∃ x w', (builtin b ts ty consts xs.toArray).run P w = .ok (.value x) w' ∧ Lv w0 m0 N e a K x w' := by
 unfold builtinK at hk
 split at hk
 ·rename_i x
  obtain ⟨xv, hx, rx⟩ := r.get (i := 0) rfl
  obtain ⟨t, rfl⟩ : ∃ t, ts = #[t] := by
   have hl : ts.size = 1 := by rw [hts, ← r.1]; rfl
   exact ⟨ts[0], by apply Array.ext (by simp [hl]); intro i h1 h2; (have : i = 0 := (by omega)); subst this; simp⟩
  obtain rfl : xs = [xv] := by
   have hl : xs.length = 1 := r.1.symm
   match xs, hl with
   | [y], _ => simpa using hx
  split at hk
  ·rename_i t' ht
   simp at ht
   subst ht
   obtain ⟨v, z, hv, rz, hrun⟩ := lenK_sound h (ty := ty) rx hk
   exact ⟨z, w, by simp [builtin, hrun], v, s, m, ι, hv, rz, h⟩
  ·exact hk.elim
 ·rename_i d y
  obtain ⟨dv, hd, rd⟩ := r.get (i := 0) rfl
  obtain ⟨yv, hy, ry⟩ := r.get (i := 1) rfl
  obtain rfl : xs = [dv, yv] := by
   have hl : xs.length = 2 := r.1.symm
   match xs, hl with
   | [p, q], _ => simp at hd hy; subst hd; subst hy; rfl
  split at hk
  ·rename_i t u ht hu
   have : ts = #[t, u] := by
    have hl : ts.size = 2 := hts
    apply Array.ext (by simp [hl])
    intro i h1 h2
    have h3 : i = 0 ∨ i = 1 := by omega
    rcases h3 with rfl | rfl
    ·simpa [Array.getElem?_eq_getElem h1] using ht
    ·simpa [Array.getElem?_eq_getElem h1] using hu
   subst this
   obtain ⟨x, w', hrun, lv⟩ := appendK_sound h (ty := ty) rd ry hk
   exact ⟨x, w', by simp [builtin, hrun], lv⟩
  ·exact hk.elim
 ·rename_i k p j q
  obtain ⟨xv, hx, rx⟩ := r.get (i := 0) rfl
  obtain ⟨yv, hy, ry⟩ := r.get (i := 1) rfl
  obtain rfl : xs = [xv, yv] := by
   have hl : xs.length = 2 := r.1.symm
   match xs, hl with
   | [p, q], _ => simp at hx hy; subst hx; subst hy; rfl
  obtain ⟨rfl, hp⟩ := rx.int_inv
  obtain ⟨rfl, hq⟩ := ry.int_inv
  split at hk
  ·rename_i hkj
   have hkj := of_decide_eq_true hkj
   subst hkj
   exact ⟨_, w, by simp [builtin, run_max_int2], _, s, m, ι, hk, (maxmin_rep hp hq).1, h⟩
  ·exact hk.elim
 ·rename_i mm k
  obtain ⟨xv, hx, rx⟩ := r.get (i := 0) rfl
  obtain ⟨yv, hy, ry⟩ := r.get (i := 1) rfl
  obtain rfl : xs = [xv, yv] := by
   have hl : xs.length = 2 := r.1.symm
   match xs, hl with
   | [p, q], _ => simp at hx hy; subst hx; subst hy; rfl
  split at hk
  ·rename_i t ht
   split at hk
   ·rename_i kt el id hu
    obtain ⟨x, w', hrun, lv⟩ := delete_sound h (ty := ty) hu rx ry ht hk
    exact ⟨x, w', by simp [builtin, hrun], lv⟩
   ·exact hk.elim
  ·exact hk.elim
 ·rename_i k p j q
  obtain ⟨xv, hx, rx⟩ := r.get (i := 0) rfl
  obtain ⟨yv, hy, ry⟩ := r.get (i := 1) rfl
  obtain rfl : xs = [xv, yv] := by
   have hl : xs.length = 2 := r.1.symm
   match xs, hl with
   | [p, q], _ => simp at hx hy; subst hx; subst hy; rfl
  obtain ⟨rfl, hp⟩ := rx.int_inv
  obtain ⟨rfl, hq⟩ := ry.int_inv
  split at hk
  ·rename_i hkj
   have hkj := of_decide_eq_true hkj
   subst hkj
   exact ⟨_, w, by simp [builtin, run_min_int2], _, s, m, ι, hk, (maxmin_rep hp hq).2, h⟩
  ·exact hk.elim
 ·exact hk.elim
theorem Rep.wf : ∀ (n : Nat) {m : Mem} {ι : List Blk} (v : V) (x : Value), Rep m ι v x → wfV n v
 | 0, _, _, _, _, _ => trivial
 | n + 1, m, ι, v, x, h => by
  cases h with
  | int _ k z hz => exact hz
  | str _ b hb => exact hb
  | elem _ cs b o g hm hr =>
   intro c hc
   obtain ⟨j, hj, rfl⟩ := List.mem_iff_getElem.1 hc
   exact Rep.wf n _ _ (hr j _ (List.getElem?_eq_getElem hj))
  | row _ x els p cap sz b o g hx hc hl hs ha hm hr =>
   refine ⟨hl, fun el he c hc => ?_⟩
   obtain ⟨i, hi, rfl⟩ := List.mem_iff_getElem.1 he
   obtain ⟨j, hj, rfl⟩ := List.mem_iff_getElem.1 hc
   exact Rep.wf n _ _ (hr i j _ _ (List.getElem?_eq_getElem hi) (List.getElem?_eq_getElem hj))
  | agg _ cs vs hl hr =>
   intro c hc
   obtain ⟨j, hj, rfl⟩ := List.mem_iff_getElem.1 hc
   exact Rep.wf n _ _ (hr j _ _ (List.getElem?_eq_getElem hj) (List.getElem?_eq_getElem (hl ▸ hj)))
  | tup _ cs vs hl hr =>
   intro c hc
   obtain ⟨j, hj, rfl⟩ := List.mem_iff_getElem.1 hc
   exact Rep.wf n _ _ (hr j _ _ (List.getElem?_eq_getElem hj) (List.getElem?_eq_getElem (hl ▸ hj)))
  | _ => trivial
theorem St.mo (h : St w0 m0 N m ι e s a w) : Mo ⟨w, lent s ι, ι⟩ m m ι s w :=
 {mle := Mem.le.refl m
  glo := h.glo
  mok := h.mok
  fresh := fun b o x hx hn => by rw [hx] at hn; cases hn
  below := ⟨rfl, rfl, rfl, Nat.le_refl _, fun _ _ _ => rfl⟩
  len := h.len
  obj := h.obj
  own := fun i o β ho hβ hg => ⟨.inr ⟨i, o, β, ho, hβ, hg, rfl⟩, (h.own i o β ho hβ hg).2⟩
  inj := h.inj
  pin := fun _ _ q => q }
theorem St.back (h : St w0 m0 N m ι e s a w) {m' : Mem} {ι' : List Blk} {s' : List O} {w' : World} (k : Mo ⟨w, lent s ι, ι⟩ m m' ι' s' w') : St w0 m0 N m' ι' e s' a w' :=
 have mine_ : ∀ b, (Base.mk w (lent s ι) ι).mine b → w0.mine b := fun b hb => by
  rcases hb with hb | ⟨i, o, β, ho, hβ, hg, rfl⟩
  ·exact .inl (Nat.le_trans h.below.size hb)
  ·exact (h.own i o β ho hβ hg).1
 {defers := h.defers
  size := h.size
  env := fun t => ((h.env t).mono k.mle).ext k.pin
  mle := h.mle.trans k.mle
  glo := k.glo
  mok := k.mok
  fresh := fun b o x hx h0 => by
   cases q : m b o with
   | none => exact mine_ b (k.fresh b o x hx q)
   | some y => exact h.fresh b o y q h0
  below := ⟨k.below.os.trans h.below.os, k.below.tape.trans h.below.tape, k.below.output.trans h.below.output, Nat.le_trans h.below.size k.below.size, fun i hi hx => by
   have hlt : i < w.heap.size := Nat.lt_of_lt_of_le hi h.below.size
   rw [k.below.block i hlt ?_]
   ·exact h.below.block i hi hx
   ·rintro ⟨j, o, β, ho, hβ, hg, rfl⟩
    rcases (h.own j o β ho hβ hg).1 with q | q
    ·omega
    ·exact hx q⟩
  len := k.len
  obj := k.obj
  own := fun i o β ho hβ hg => ⟨mine_ _ (k.own i o β ho hβ hg).1, (k.own i o β ho hβ hg).2⟩
  inj := k.inj
  pin := fun i β hi => k.pin i β (h.pin i β hi) }
theorem Mo.wfL {B : Base} {m1 : Mem} (h : Mo B m1 m ι s w) : Ab.wfL s := fun i wr cs hs c hc => by
 have hlt : i < ι.length := h.len ▸ (List.getElem?_eq_some_iff.1 hs).1
 obtain ⟨vs, et, fr, _, rr, _⟩ := h.obj i _ _ hs (List.getElem?_eq_getElem hlt)
 obtain ⟨j, hj, rfl⟩ := List.mem_iff_getElem.1 hc
 exact (rr.2 j _ _ (List.getElem?_eq_getElem hj) (List.getElem?_eq_getElem (rr.1 ▸ hj))).wf 8
theorem Ret.toE {f : FuncId} {args : List V} {r : V} (h : Ret P f args r) : RetE P f args fun v => v = r := by
 intro m w vs hG hm rv
 have := h m w vs hG hm rv
 unfold CallsX at this ⊢
 generalize (callFunc f vs.toArray).run P w = q at this
 have fin : ∀ {v : Value} {w' : World}, (∃ m' : Mem, m.le m' ∧ m'.ok w' ∧ Rep m' [] r v ∧ Below w.heap.size w w' ∧ ∀ b o x, m' b o = some x → m b o = none → w.heap.size ≤ b) →
   ∃ (m' : Mem) (q : V), q = r ∧ m.le m' ∧ m'.ok w' ∧ Rep m' [] q v ∧ Below w.heap.size w w' ∧ ∀ b o x, m' b o = some x → m b o = none → w.heap.size ≤ b := by
  rintro v w' ⟨m', h⟩
  exact ⟨m', r, rfl, h⟩
 cases q with
 | ok nx w1 =>
  cases nx <;> first
   | exact fin this
   | exact this.mono fun e w'' ⟨v, he, h2⟩ => ⟨v, he, fin h2⟩
   | exact this.elim
 | halt x w1 => exact this.elim
theorem goes_call (h : St w0 m0 N m ι e s a w) {c : Call} (ho : o.op = .call c) (hc : o.op.operands.toList.all okX = true) (hts : c.argTypes.size = c.args.size) (hk : opK P l e s o K) : Goes P o a w (Lv w0 m0 N e a K) := by
 simp only [opK, ho] at hk
 unfold callK at hk
 have hops : (∀ f, c.callee = .value f → okX f = true) ∧ c.args.toList.all okX = true := by
  rw [ho] at hc
  simp only [Op.operands, Call.operands, Array.toList_append, List.all_append, Bool.and_eq_true] at hc
  refine ⟨fun f hf => ?_, hc.2⟩
  have := hc.1
  rw [hf] at this
  simpa using this
 have ra := ats h hops.2
 split at hk
 ·rename_i b hcb
  split at hk
  rotate_left
  ·rename_i hl4
   simp only [Bool.and_eq_true] at hl4
   obtain rfl : b = .clear := by have := hl4.2; cases b <;> simp_all [isClear]
   obtain ⟨x, w', hrun, lv⟩ := clearK_sound (ty := o.type) (consts := c.args.map fun | .const _ => true | _ => false) h ra hk
   unfold Goes
   have : (execOp a.eval o).run P w = .ok (.value x) w' := by
    simp only [execOp, ho, resolve, hcb, Sem.run_bind, Sem.run_pure, Result.andThen_ok, invoke]
    rw [Array.toArray_toList] at hrun
    exact hrun
   rw [this]
   exact lv
  obtain ⟨x, w', hrun, lv⟩ := builtinK_sound (ty := o.type) (consts := c.args.map fun | .const _ => true | _ => false) h ra (by simpa using hts) hk
  unfold Goes
  have : (execOp a.eval o).run P w = .ok (.value x) w' := by
   simp only [execOp, ho, resolve, hcb, Sem.run_bind, Sem.run_pure, Result.andThen_ok, invoke]
   rw [Array.toArray_toList] at hrun
   exact hrun
  rw [this]
  exact lv
 ·rename_i f hcf
  have rf := h.at (hops.1 f hcf)
  generalize hvf : a.eval f = vf at *
  split at hk
  ·rename_i g fs cs hev
   rw [hev] at rf
   cases rf with
   | fn _ _ _ _ va vb ha hb rva rvb =>
    have rl : RepL m ι (fs ++ c.args.toList.map (Ab.ev e) ++ cs) (va ++ (c.args.map a.eval).toList ++ vb) := (RepL.append ⟨ha, rva⟩ ra).append ⟨hb, rvb⟩
    have hrun : (execOp a.eval o).run P w = (callFunc g (va ++ (c.args.map a.eval).toList ++ vb).toArray).run P w := by
     simp only [execOp, ho, resolve, hcf, hvf, Deferred.ofValue, Sem.run_bind, Sem.run_pure, Result.andThen_ok, invoke]
     congr 2
     apply Array.ext'
     simp
    have plainE : ∀ Q, RetE P g ((fs ++ c.args.toList.map (Ab.ev e) ++ cs).map (frz 8 s)) Q → (∀ r, Q r → wfV 8 r → K r (mark s ((fs ++ c.args.toList.map (Ab.ev e) ++ cs).flatMap (idl 8 s)))) → Goes P o a w (Lv w0 m0 N e a K) := by
     intro Q hr hk
     obtain ⟨m', hle, h', rl'⟩ := h.freeze rl
     have hcall := hr m' w _ h'.glo h'.mok rl'
     unfold Goes
     rw [hrun]
     unfold CallsX at hcall
     have fin : ∀ {v : Value} {w' : World}, (∃ (m2 : Mem) (r : V), Q r ∧ m'.le m2 ∧ m2.ok w' ∧ Rep m2 [] r v ∧ Below w.heap.size w w' ∧ ∀ b o x, m2 b o = some x → m' b o = none → w.heap.size ≤ b) → Lv w0 m0 N e a K v w' := by
      rintro v w' ⟨m2, r, hQ, hle2, hok, rv, hbel, hfr⟩
      exact ⟨r, _, m2, ι, hk r hQ (rv.wf 8), rv.closed ι, h'.grow hle2 hok hbel hfr⟩
     generalize (callFunc g (va ++ (c.args.map a.eval).toList ++ vb).toArray).run P w = q at hcall
     cases q with
     | ok nx w1 =>
      cases nx <;> first
       | exact fin hcall
       | exact hcall.mono fun e w'' ⟨v, he, h2⟩ => ⟨v, he, fin h2⟩
       | exact hcall.elim
     | halt x w1 => exact hcall.elim
    have plain : (∃ r, Ret P g ((fs ++ c.args.toList.map (Ab.ev e) ++ cs).map (frz 8 s)) r ∧ (wfV 8 r → K r (mark s ((fs ++ c.args.toList.map (Ab.ev e) ++ cs).flatMap (idl 8 s))))) → Goes P o a w (Lv w0 m0 N e a K) := by
     rintro ⟨r, hr, hk⟩
     exact plainE (fun v => v = r) hr.toE fun v hv hw => by subst hv; exact hk hw
    cases l with
    | false =>
     simp only [fL_eq (fV_eq 8)] at hk
     have gen : ∀ (r : V) (s' : List O), RetQ P g (fs ++ c.args.toList.map (Ab.ev e) ++ cs) s (fun r' t => r' = r ∧ t = s') → K r s' → Goes P o a w (Lv w0 m0 N e a K) := by
      intro r0 s0 hr hk
      have hcall := hr m w _ ι h.mo rl
      unfold Goes
      rw [hrun]
      unfold CallsX at hcall
      have fin : ∀ {v : Value} {w' : World}, (∃ (m' : Mem) (ι' : List Blk) (r : V) (s' : List O), (r = r0 ∧ s' = s0) ∧ Mo ⟨w, lent s ι, ι⟩ m m' ι' s' w' ∧ Rep m' ι' r v) → Lv w0 m0 N e a K v w' := by
       rintro v w' ⟨m2, ι2, r, s', ⟨rfl, rfl⟩, hmo, rv⟩
       exact ⟨r, _, m2, ι2, hk, rv, h.back hmo⟩
      generalize (callFunc g (va ++ (c.args.map a.eval).toList ++ vb).toArray).run P w = q at hcall
      cases q with
      | ok nx w1 =>
       cases nx <;> first
        | exact fin hcall
        | exact hcall.mono fun e w'' ⟨v, he, h2⟩ => ⟨v, he, fin h2⟩
        | exact hcall.elim
      | halt x w1 => exact hcall.elim
     rcases hk with hk | ⟨r, hr, hk⟩ | ⟨r, t, hr, _, hk⟩
     ·exact plain hk
     ·exact gen r s (hr s) hk
     ·exact gen r _ hr hk
    | true =>
     simp only [fL_eq (fV_eq 8)] at hk
     rcases hk with hk | ⟨r, s', hr, hk⟩ | ⟨Q, hr, hk⟩ | ⟨Q, hr, hk⟩
     ·exact plain hk
     rotate_left
     ·have hcall := hr m w _ ι h.mo rl
      unfold Goes
      rw [hrun]
      unfold CallsX at hcall
      have fin : ∀ {v : Value} {w' : World}, (∃ (m' : Mem) (ι' : List Blk) (r : V) (s' : List O), Q r s' ∧ Mo ⟨w, lent s ι, ι⟩ m m' ι' s' w' ∧ Rep m' ι' r v) → Lv w0 m0 N e a K v w' := by
       rintro v w' ⟨m2, ι2, r, s', hq, hmo, rv⟩
       exact ⟨r, _, m2, ι2, hk r s' hq (rv.wf 8) hmo.wfL, rv, h.back hmo⟩
      generalize (callFunc g (va ++ (c.args.map a.eval).toList ++ vb).toArray).run P w = q at hcall
      cases q with
      | ok nx w1 =>
       cases nx <;> first
        | exact fin hcall
        | exact hcall.mono fun e w'' ⟨v, he, h2⟩ => ⟨v, he, fin h2⟩
        | exact hcall.elim
      | halt x w1 => exact hcall.elim
     ·exact plainE Q hr hk
     have hcall := hr m w _ ι h.mo rl
     unfold Goes
     rw [hrun]
     unfold CallsX at hcall
     have fin : ∀ {v : Value} {w' : World}, (∃ (m' : Mem) (ι' : List Blk), Mo ⟨w, lent s ι, ι⟩ m m' ι' s' w' ∧ Rep m' ι' r v) → Lv w0 m0 N e a K v w' := by
      rintro v w' ⟨m2, ι2, hmo, rv⟩
      exact ⟨r, _, m2, ι2, hk (rv.wf 8) hmo.wfL, rv, h.back hmo⟩
     generalize (callFunc g (va ++ (c.args.map a.eval).toList ++ vb).toArray).run P w = q at hcall
     cases q with
     | ok nx w1 =>
      cases nx <;> first
       | exact fin hcall
       | exact hcall.mono fun e w'' ⟨v, he, h2⟩ => ⟨v, he, fin h2⟩
       | exact hcall.elim
     | halt x w1 => exact hcall.elim
  ·exact hk.elim
 ·exact hk.elim
end
end Go.Proofs.YtcbknemdidehlaaGreatDoor.Ab
namespace Go.Proofs.YtcbknemdidehlaaGreatDoor.Ab
open Go.RowKit
set_option linter.unusedVariables false
set_option linter.unusedSimpArgs false
section
variable {l : Bool} {P : Program} {w0 : Base} {m0 : Mem} {N : Nat} {m : Mem} {ι : List Blk} {e : Env} {s : List O} {a : Act} {w : World} {o : Oper} {K : V → List O → Prop}
theorem low_inv {x : Option V} {xv : Option Value} {K : Int → Prop} (h : lowK x K) (r : ∀ v, x = some v → ∃ y, xv = some y ∧ Rep m ι v y) (hn : x = none → xv = none) :
  (∃ k i, xv = some (.int k i) ∧ K i) ∨ (xv = none ∧ K 0) := by
 unfold lowK at h
 split at h
 ·exact .inr ⟨hn rfl, h⟩
 ·rename_i k i
  obtain ⟨y, rfl, ry⟩ := r _ rfl
  obtain ⟨rfl, _⟩ := ry.int_inv
  exact .inl ⟨k, i, rfl, h⟩
 ·exact h.elim
theorem high_inv {n : Int} {x : Option V} {xv : Option Value} {K : Int → Prop} (h : highK n x K) (r : ∀ v, x = some v → ∃ y, xv = some y ∧ Rep m ι v y) (hn : x = none → xv = none) :
  (∃ k i, xv = some (.int k i) ∧ K i) ∨ (xv = none ∧ K n) := by
 unfold highK at h
 split at h
 ·exact .inr ⟨hn rfl, h⟩
 ·rename_i k i
  obtain ⟨y, rfl, ry⟩ := r _ rfl
  obtain ⟨rfl, _⟩ := ry.int_inv
  exact .inl ⟨k, i, rfl, h⟩
 ·exact h.elim
theorem run_bound {k : IntKind} {i : Int} {y : Nat} {code : BoundsCode} (h0 : 0 ≤ i) (h1 : i ≤ y) : (Instr.sliceBound (.int k i) y code).run P w = .ok i.toNat w := by
 simp [Instr.sliceBound, asIntOf, h0, h1]
theorem run_bounds {sl : Bool} {len cap : Nat} {lo hi : Option Value} {l h : Int} (hl : (∃ k, lo = some (.int k l)) ∨ (lo = none ∧ l = 0)) (hh : (∃ k, hi = some (.int k h)) ∨ (hi = none ∧ h = len)) (h0 : 0 ≤ l) (h1 : l ≤ h) (h2 : h ≤ cap) :
  (Instr.sliceBounds sl len cap lo hi none).run P w = .ok (l.toNat, h.toNat, cap) w := by
 have eh : (h.toNat : Int) = h := Int.toNat_of_nonneg (by omega)
 rcases hl with ⟨k, rfl⟩ | ⟨rfl, rfl⟩ <;> rcases hh with ⟨j, rfl⟩ | ⟨rfl, rfl⟩
 ·have a1 := run_bound (P := P) (w := w) (k := j) (code := if sl then BoundsCode.sliceAcap else .sliceAlen) (show 0 ≤ h by omega) h2
  have a2 := run_bound (P := P) (w := w) (k := k) (i := l) (y := h.toNat) (code := .sliceB) h0 (by omega)
  simp [Instr.sliceBounds, a1, a2]
 ·have a2 := run_bound (P := P) (w := w) (k := k) (i := l) (y := len) (code := .sliceB) h0 (by omega)
  simp [Instr.sliceBounds, a2]
 ·have a1 := run_bound (P := P) (w := w) (k := j) (code := if sl then BoundsCode.sliceAcap else .sliceAlen) (show 0 ≤ h by omega) h2
  simp [Instr.sliceBounds, a1]
 ·simp [Instr.sliceBounds]
theorem run_bounds3 {len cap : Nat} {lo : Option Value} {j : IntKind} {l h x : Int} {k2 : IntKind} (hl : (∃ k, lo = some (.int k l)) ∨ (lo = none ∧ l = 0)) (h0 : 0 ≤ l) (h1 : l ≤ h) (h2 : h ≤ x) (h3 : x ≤ cap) :
  (Instr.sliceBounds true len cap lo (some (.int k2 h)) (some (.int j x))).run P w = .ok (l.toNat, h.toNat, x.toNat) w := by
 have a0 := run_bound (P := P) (w := w) (k := j) (code := .slice3Acap) (show 0 ≤ x by omega) h3
 have a1 := run_bound (P := P) (w := w) (k := k2) (i := h) (y := x.toNat) (code := .slice3B) (by omega) (by omega)
 rcases hl with ⟨k, rfl⟩ | ⟨rfl, rfl⟩
 ·have a2 := run_bound (P := P) (w := w) (k := k) (i := l) (y := h.toNat) (code := .slice3C) h0 (by omega)
  simp [Instr.sliceBounds, a0, a1, a2]
 ·simp [Instr.sliceBounds, a0, a1]
theorem row_part {x : Bool} {els : List (List V)} {p : Option Addr} {cap sz : Nat} (r : Rep m ι (.row x els) (.slice p els.length cap)) (hs : ∀ e ∈ els, e.length = sz) {l h c : Nat} (h1 : l ≤ h) (h2 : h ≤ els.length) (h3 : h ≤ c) (h4 : c ≤ cap) {x' : Bool} (hx : x' = true → c = h) :
  Rep m ι (.row x' ((els.drop l).take (h - l))) (.slice (if c = l then p else p.map (·.add (l * sz))) (h - l) (c - l)) := by
 generalize hv : Value.slice p els.length cap = vv at r
 cases r with
 | row _ _ _ p' cap' sz' b off g hx1 hc1 hl1 hs1 ha1 hm1 hr1 =>
  simp only [Value.slice.injEq] at hv
  obtain ⟨rfl, _, rfl⟩ := hv
  have hlen : ((els.drop l).take (h - l)).length = h - l := by simp; omega
  have key := Rep.row (m := m) ι x' ((els.drop l).take (h - l)) (if c = l then p else p.map (·.add (l * sz))) (c - l) sz b (off + l * sz) (fun i j => g (l + i) j) (fun q => by rw [hlen, hx q]) (by omega) (by omega)
   (fun el he => hs el (List.mem_of_mem_drop (List.mem_of_mem_take he))) ?_ ?_ ?_
  ·rwa [hlen] at key
  ·intro hne
   have hlt : l < h := by
    rcases Nat.lt_or_ge l h with q | q
    ·exact q
    ·exact absurd (List.eq_nil_of_length_eq_zero (by omega)) hne
   have hne2 : els ≠ [] := fun q => by subst q; simp at h2; omega
   rw [if_neg (by omega), ha1 hne2]
   simp only [Option.map_some, addr_add]
  ·intro i j el c' hi hj
   rw [List.getElem?_take] at hi
   split at hi
   ·rw [List.getElem?_drop] at hi
    have hsz : sz' = sz := (hs1 el (List.mem_of_getElem? hi)).symm.trans (hs el (List.mem_of_getElem? hi))
    have := hm1 (l + i) j el c' hi hj
    rw [hsz, Nat.add_mul] at this
    rw [← this]
    congr 1
    omega
   ·cases hi
  ·intro i j el c' hi hj
   rw [List.getElem?_take] at hi
   split at hi
   ·rw [List.getElem?_drop] at hi
    exact hr1 (l + i) j el c' hi hj
   ·cases hi
theorem atO (h : St w0 m0 N m ι e s a w) {x : Option Operand} (hx : ∀ y, x = some y → okX y = true) : (∀ v, x.map (ev e) = some v → ∃ y, x.map a.eval = some y ∧ Rep m ι v y) ∧ (x.map (ev e) = none → x.map a.eval = none) := by
 cases x with
 | none => simp
 | some y => exact ⟨fun v hv => ⟨_, rfl, by simp at hv; subst hv; exact h.at (hx y rfl)⟩, fun q => by simp at q⟩
theorem goes_slice (h : St w0 m0 N m ι e s a w) {t : TypeId} {x : Operand} {lo hi mx : Option Operand} (ho : o.op = .slice t x lo hi mx) (hc : o.op.operands.toList.all okX = true) (hk : opK P l e s o K) : Goes P o a w (Lv w0 m0 N e a K) := by
 simp only [opK, ho] at hk
 have hops : okX x = true ∧ (∀ y, lo = some y → okX y = true) ∧ (∀ y, hi = some y → okX y = true) ∧ (∀ y, mx = some y → okX y = true) := by
  rw [ho] at hc
  simp only [Op.operands, Array.toList_append, List.all_append, Bool.and_eq_true] at hc
  refine ⟨by simpa using hc.1.1.1, fun y q => ?_, fun y q => ?_, fun y q => ?_⟩
  ·subst q; simpa using hc.1.1.2
  ·subst q; simpa using hc.1.2
  ·subst q; simpa using hc.2
 have rx := h.at hops.1
 have rlo := atO h hops.2.1
 have rhi := atO h hops.2.2.1
 have rmx := atO h hops.2.2.2
 generalize hvx : a.eval x = vx at *
 generalize ev e x = ux at *
 generalize hlo : lo.map a.eval = vlo at *
 generalize lo.map (ev e) = ulo at *
 generalize hhi : hi.map a.eval = vhi at *
 generalize hi.map (ev e) = uhi at *
 generalize hmx : mx.map a.eval = vmx at *
 generalize mx.map (ev e) = umx at *
 unfold sliceK at hk
 split at hk
 ·rename_i b hu
  obtain ⟨rfl, hb⟩ := rx.str_inv
  split at hk
  ·obtain rfl : vmx = none := rmx.2 rfl
   have key : ∀ l hh, ((∃ k, vlo = some (.int k l)) ∨ (vlo = none ∧ l = 0)) → ((∃ k, vhi = some (.int k hh)) ∨ (vhi = none ∧ hh = (b.size : Int))) → (Sd (0 ≤ l ∧ l ≤ hh ∧ hh ≤ b.size) ∧ K (.str (b.extract l.toNat hh.toNat)) s) → Goes P o a w (Lv w0 m0 N e a K) := by
    rintro l hh q1 q2 ⟨⟨h0, h1, h2⟩, k⟩
    have hbo := run_bounds (P := P) (w := w) (sl := false) (len := b.size) (cap := b.size) q1 q2 h0 h1 h2
    refine Goes.here h (x := .string (b.extract l.toNat hh.toNat)) ?_ (.str _ _ (by rw [ByteArray.size_extract]; omega)) k
    simp [execOp, ho, hvx, hlo, hhi, hmx, Instr.sliceAt, Instr.slice, run_und hu, hbo]
   rcases low_inv hk rlo.1 rlo.2 with ⟨k1, l, q1, hk⟩ | ⟨q1, hk⟩ <;> rcases high_inv hk rhi.1 rhi.2 with ⟨k2, hh, q2, hk⟩ | ⟨q2, hk⟩
   ·exact key l hh (.inl ⟨k1, q1⟩) (.inl ⟨k2, q2⟩) hk
   ·exact key l _ (.inl ⟨k1, q1⟩) (.inr ⟨q2, rfl⟩) hk
   ·exact key 0 hh (.inr ⟨q1, rfl⟩) (.inl ⟨k2, q2⟩) hk
   ·exact key 0 _ (.inr ⟨q1, rfl⟩) (.inr ⟨q2, rfl⟩) hk
  ·exact hk.elim
 ·rename_i el xx els hu
  split at hk
  ·rename_i z hz
   obtain ⟨p, cap, hv, hc1, hx1⟩ : ∃ p cap, vx = .slice p els.length cap ∧ els.length ≤ cap ∧ (xx = true → cap = els.length) := by
    cases rx with
    | row _ _ _ p cap sz' b off g hx1 hc1 hl1 hs1 ha1 hm1 hr1 => exact ⟨p, cap, rfl, hc1, hx1⟩
   subst hv
   split at hk
   ·obtain rfl : vmx = none := rmx.2 rfl
    have key : ∀ l hh, ((∃ k, vlo = some (.int k l)) ∨ (vlo = none ∧ l = 0)) → ((∃ k, vhi = some (.int k hh)) ∨ (vhi = none ∧ hh = (els.length : Int))) →
      (Sd (0 ≤ l ∧ l ≤ hh ∧ hh ≤ els.length) ∧ Sd (∀ e ∈ els, e.length = z) ∧ K (.row (xx && decide (hh = els.length)) ((els.drop l.toNat).take (hh - l).toNat)) s) → Goes P o a w (Lv w0 m0 N e a K) := by
     rintro l hh q1 q2 ⟨⟨h0, h1, h2⟩, ⟨h3⟩, k⟩
     have hbo := run_bounds (P := P) (w := w) (sl := true) (len := els.length) (cap := cap) q1 q2 h0 h1 (by omega)
     have e1 : (hh - l).toNat = hh.toNat - l.toNat := by omega
     rw [e1] at k
     refine Goes.here h ?_ (row_part rx h3 (l := l.toNat) (h := hh.toNat) (c := cap) (by omega) (by omega) (by omega) (Nat.le_refl _) (fun q => ?_)) k
     ·simp [execOp, ho, hvx, hlo, hhi, hmx, Instr.sliceAt, Instr.slice, run_und hu, hbo, run_size hz]
     ·simp only [Bool.and_eq_true, decide_eq_true_eq] at q
      rw [hx1 q.1]
      omega
    rcases low_inv hk rlo.1 rlo.2 with ⟨k1, l, q1, hk⟩ | ⟨q1, hk⟩ <;> rcases high_inv hk rhi.1 rhi.2 with ⟨k2, hh, q2, hk⟩ | ⟨q2, hk⟩
    ·exact key l hh (.inl ⟨k1, q1⟩) (.inl ⟨k2, q2⟩) hk
    ·exact key l _ (.inl ⟨k1, q1⟩) (.inr ⟨q2, rfl⟩) hk
    ·exact key 0 hh (.inr ⟨q1, rfl⟩) (.inl ⟨k2, q2⟩) hk
    ·exact key 0 _ (.inr ⟨q1, rfl⟩) (.inr ⟨q2, rfl⟩) hk
   ·rename_i mv
    have key : ∀ l hh k2 x j, ((∃ k, vlo = some (.int k l)) ∨ (vlo = none ∧ l = 0)) → vhi = some (.int k2 hh) → vmx = some (.int j x) →
      (Sd (0 ≤ l ∧ l ≤ hh ∧ hh ≤ x ∧ x ≤ els.length) ∧ Sd (∀ e ∈ els, e.length = z) ∧ K (.row (decide (hh = x)) ((els.drop l.toNat).take (hh - l).toNat)) s) → Goes P o a w (Lv w0 m0 N e a K) := by
     rintro l hh k2 x j q1 rfl rfl ⟨⟨h0, h1, h2, h4⟩, ⟨h3⟩, k⟩
     have hbo := run_bounds3 (P := P) (w := w) (len := els.length) (cap := cap) (j := j) (k2 := k2) q1 h0 h1 h2 (by omega)
     have e1 : (hh - l).toNat = hh.toNat - l.toNat := by omega
     rw [e1] at k
     refine Goes.here h ?_ (row_part rx h3 (l := l.toNat) (h := hh.toNat) (c := x.toNat) (by omega) (by omega) (by omega) (by omega) (fun q => ?_)) k
     ·simp [execOp, ho, hvx, hlo, hhi, hmx, Instr.sliceAt, Instr.slice, run_und hu, hbo, run_size hz]
     ·have := of_decide_eq_true q
      omega
    split at hk
    ·exact hk.elim
    ·have no : ∀ {u : V} {xv : Option Value}, (∀ v, some u = some v → ∃ y, xv = some y ∧ Rep m ι v y) → xv = none → False := fun q1 q2 => by
      obtain ⟨y, hy, _⟩ := q1 _ rfl
      rw [q2] at hy
      cases hy
     rcases low_inv hk rlo.1 rlo.2 with ⟨k1, l, q1, hk⟩ | ⟨q1, hk⟩ <;> rcases low_inv hk rhi.1 rhi.2 with ⟨k2, hh, q2, hk⟩ | ⟨q2, hk⟩
     ·rcases low_inv hk rmx.1 rmx.2 with ⟨k3, x, q3, hk⟩ | ⟨q3, hk⟩
      ·exact key l hh k2 x k3 (.inl ⟨k1, q1⟩) q2 q3 hk
      ·exact (no rmx.1 q3).elim
     ·exact (no rhi.1 q2).elim
     ·rcases low_inv hk rmx.1 rmx.2 with ⟨k3, x, q3, hk⟩ | ⟨q3, hk⟩
      ·exact key 0 hh k2 x k3 (.inr ⟨q1, rfl⟩) q2 q3 hk
      ·exact (no rmx.1 q3).elim
     ·exact (no rhi.1 q2).elim
  ·exact hk.elim
 ·rename_i el id off len hu
  rw [at?_eq] at hk
  split at hk
  ·rename_i wr sz els z hs hz
   obtain rfl : vmx = none := rmx.2 rfl
   split at hk
   ·rename_i hq
    have hq := Nat.eq_of_beq_eq_true hq
    subst hq
    cases rx with
    | sl _ _ _ _ p cap β hβ hl hc hn hb ha =>
     obtain ⟨vs, et, fr, hsz, _⟩ := h.obj id _ β hs hβ
     have key : ∀ l hh, ((∃ k, vlo = some (.int k l)) ∨ (vlo = none ∧ l = 0)) → ((∃ k, vhi = some (.int k hh)) ∨ (vhi = none ∧ hh = (len : Int))) →
       (Sd (0 ≤ l ∧ l ≤ hh ∧ hh ≤ len) ∧ K (.sl id (off + l.toNat) (hh - l).toNat) s) → Goes P o a w (Lv w0 m0 N e a K) := by
      rintro l hh q1 q2 ⟨⟨h0, h1, h2⟩, k⟩
      have hbo := run_bounds (P := P) (w := w) (sl := true) (len := len) (cap := cap) q1 q2 h0 h1 (by omega)
      have e1 : (hh - l).toNat = hh.toNat - l.toNat := by omega
      rw [e1] at k
      refine Goes.here h (x := .slice (if cap = l.toNat then p else p.map (·.add (l.toNat * sz))) (hh.toNat - l.toNat) (cap - l.toNat)) ?_ (.sl _ id _ _ _ _ β hβ (by omega) (by omega) (by omega) (by omega) (fun q => ?_)) k
      ·simp [execOp, ho, hvx, hlo, hhi, hmx, Instr.sliceAt, Instr.slice, run_und hu, hbo, run_size hz]
      ·rw [if_neg (by omega), ha (by omega)]
       simp only [Option.map_some, addr_add, Nat.add_mul, hsz]
     rcases low_inv hk rlo.1 rlo.2 with ⟨k1, l, q1, hk⟩ | ⟨q1, hk⟩ <;> rcases high_inv hk rhi.1 rhi.2 with ⟨k2, hh, q2, hk⟩ | ⟨q2, hk⟩
     ·exact key l hh (.inl ⟨k1, q1⟩) (.inl ⟨k2, q2⟩) hk
     ·exact key l _ (.inl ⟨k1, q1⟩) (.inr ⟨q2, rfl⟩) hk
     ·exact key 0 hh (.inr ⟨q1, rfl⟩) (.inl ⟨k2, q2⟩) hk
     ·exact key 0 _ (.inr ⟨q1, rfl⟩) (.inr ⟨q2, rfl⟩) hk
   ·exact hk.elim
  ·exact hk.elim
 ·exact hk.elim
end
end Go.Proofs.YtcbknemdidehlaaGreatDoor.Ab
namespace Go.Proofs.YtcbknemdidehlaaGreatDoor.Ab
open Go.RowKit
set_option linter.unusedVariables false
set_option linter.unusedSimpArgs false
section
variable {l : Bool} {P : Program} {w0 : Base} {m0 : Mem} {N : Nat} {m : Mem} {ι : List Blk} {e : Env} {s : List O} {a : Act} {w : World} {o : Oper} {K : V → List O → Prop}
theorem bytesV_get : ∀ (els : List (List V)) (l : List Int), bytesV els = some l → els.length = l.length ∧ ∀ (i : Nat) n, l[i]? = some n → els[i]? = some [.int .u8 n]
 | [], l, h => by
  simp only [bytesV, Option.some.injEq] at h
  subst h
  simp
 | el :: els, l, h => by
  simp only [bytesV] at h
  split at h
  ·rename_i n r hn hr
   obtain rfl := Option.some.inj h
   obtain ⟨h1, h2⟩ := bytesV_get els r hr
   refine ⟨by simp [h1], fun i z hi => ?_⟩
   cases i with
   | zero =>
    simp at hi
    subst hi
    unfold byteOf at hn
    split at hn
    ·simp at hn; subst hn; rfl
    ·cases hn
   | succ i => exact h2 i z (by simpa using hi)
  ·cases h
theorem run_bytesStr {src dst el : TypeId} (hs : P.underlying src = some (.slice el)) (he : P.underlying el = some (.int .u8)) (hd : P.underlying dst = some .string) {els : List (List V)} {l : List Int} (hb : bytesV els = some l) {vs : List Value} (fl : Flat m 1 els vs)
  {p : Option Addr} {cap : Nat} (ha : els ≠ [] → ∃ b o, p = some ⟨b, o, none⟩ ∧ ∀ (j : Nat) y, vs[j]? = some y → w.cell? ⟨b, o + j, none⟩ = some y) :
  (convert src dst (.slice p els.length cap)).run P w = .ok (.string (strOfNums l)) w := by
 obtain ⟨h1, h2⟩ := bytesV_get els l hb
 by_cases hne : els = []
 ·subst hne
  have : l = [] := List.eq_nil_of_length_eq_zero (by simpa using h1.symm)
  subst this
  cases p with
  | none => exact run_convert_bytes_nil w src el hs he _ _ dst hd
  | some a =>
   obtain ⟨b, o, sp⟩ := a
   rw [run_convert_bytes_string w src dst el _ _ cap hs he hd]
   simp [Conv.bytesToString, loadCells, loadCellsFrom]
   rfl
 ·obtain ⟨b, o, rfl, hm⟩ := ha hne
  refine run_convert_bytes_arg w src el hs he b o _ cap l h1.symm (fun i hi => ?_) dst hd
  have hil : i < l.length := by omega
  have hn := h2 i _ (List.getElem?_eq_getElem hil)
  obtain ⟨x, hx, rx⟩ := fl.rep i 0 _ (.int .u8 l[i]) hn rfl
  obtain ⟨rfl, _⟩ := rx.int_inv
  rw [Nat.mul_one, Nat.add_zero] at hx
  rw [hm i _ hx, List.getD_eq_getElem?_getD, List.getElem?_eq_getElem hil, Option.getD_some]
theorem freeze_behind {w : World} {b : Nat} {vs : List Value} {e : TypeId} {fr : Nat × Nat} (hh : w.heap[b]? = some (.cells vs.toArray e fr)) (h1 : fr.1 ≤ fr.2) (h2 : ∀ i, i < vs.length → ¬ (fr.1 ≤ i ∧ i < fr.2)) :
  ∃ fr' : Nat × Nat, w.freeze ⟨b, vs.length, none⟩ 1 = wset w b (.cells vs.toArray e fr') ∧ fr'.1 ≤ fr'.2 ∧ ∀ i, i < vs.length → ¬ (fr'.1 ≤ i ∧ i < fr'.2) := by
 obtain ⟨lo, hi⟩ := fr
 refine ⟨if lo == hi then (vs.length, vs.length + 1) else (min lo vs.length, max hi (vs.length + 1)), ?_, ?_, ?_⟩
 ·obtain ⟨hb, hv⟩ := Array.getElem?_eq_some_iff.1 hh
  unfold World.freeze wset
  rw [if_neg (by decide)]
  congr 1
  apply Array.ext
  ·simp
  ·intro i q1 q2
   by_cases q : b = i
   ·subst q
    simp [Array.getElem_modify, hv]
   ·rw [Array.getElem_modify, if_neg q, Array.getElem_setIfInBounds_ne _ q]
 ·by_cases q : lo = hi
  ·simp [q]
  ·simp only [beq_iff_eq, q, if_false]
   simp only at h1
   omega
 ·intro i hi2
  by_cases q : lo = hi
  ·simp only [beq_iff_eq, q, if_true]
   omega
  ·simp only [beq_iff_eq, q, if_false]
   simp only at h1 h2
   have := h2 i hi2
   have h3 := h2 lo
   omega
theorem encode_size (n : Int) : (Utf8.encode n).size ≤ 9223372036854775807 := by
 unfold Utf8.encode
 dsimp only
 repeat' split
 all_goals exact of_decide_eq_true rfl
theorem goes_convert (h : St w0 m0 N m ι e s a w) {src dst : TypeId} {x : Operand} (ho : o.op = .convert src dst x) (hx : okX x = true) (hk : opK P l e s o K) : Goes P o a w (Lv w0 m0 N e a K) := by
 simp only [opK, ho] at hk
 have rx := h.at hx
 generalize hvx : a.eval x = vx at *
 generalize ev e x = ux at *
 have lenStr : ∀ {els : List (List V)} {l : List Int}, bytesV els = some l → els.length ≤ 9223372036854775807 → (strOfNums l).size ≤ 9223372036854775807 := by
  intro els l hb hl
  rw [strOfNums_size, ← (bytesV_get els l hb).1]
  exact hl
 have each1 : ∀ {els : List (List V)} {l : List Int}, bytesV els = some l → ∀ el ∈ els, el.length = 1 := by
  intro els l hb el he
  obtain ⟨h1, h2⟩ := bytesV_get els l hb
  obtain ⟨i, hi, rfl⟩ := List.mem_iff_getElem.1 he
  have := h2 i _ (List.getElem?_eq_getElem (h1 ▸ hi))
  rw [List.getElem?_eq_getElem hi] at this
  rw [Option.some.inj this]
  rfl
 split at hk
 rotate_left
 ·rename_i hlit
  rw [Bool.and_eq_true] at hlit
  have hl2 := hlit.2
  unfold litSl at hl2
  split at hl2
  ·rename_i el hu
   split at hl2
   ·rename_i he
    obtain rfl := Nat.eq_of_beq_eq_true hl2
    split at hk
    ·rename_i id off len
     rw [at?_eq] at hk
     cases rx with
     | sl _ _ _ _ p cap β hβ hl hc hn hb ha =>
      split at hk
      ·rename_i sz els h1 hss
       have h1 := Nat.le_of_ble_eq_true h1
       obtain ⟨vs, et, fr, rfl, hh, hvl, hcap, hnn, hel, hszs, hcs, ⟨hfo, hfr⟩, hml, hmn⟩ := h.obj id _ β hss hβ
       obtain rfl := ha (by omega)
       obtain ⟨fr', hw, hf1, hf2⟩ := freeze_behind hh hfo hfr
       have hsh : w.shape? β.blk = some (et, vs.length) := by unfold World.shape?; rw [hh]; simp
       unfold Goes
       have hrun : (execOp a.eval o).run P w = .ok (.value (.slice (some ⟨β.blk, off * β.sz, none⟩) len cap)) (wset w β.blk (.cells vs.toArray et fr')) := by
        rw [← hw]
        simp [execOp, ho, hvx, convert, run_und hu, run_und he, markStringish, hsh]
       rw [hrun]
       have key := h.write hss hβ (by simp) (by simp) (hmn rfl) (o' := .arr true β.sz els) ⟨vs, et, fr', rfl, by rw [wset_heap, if_pos rfl, if_pos (h.own id _ β hss hβ (by simp)).2], hvl, hcap, hnn, hel, hszs, hcs, ⟨hf1, hf2⟩, hml, hmn⟩
       refine ⟨_, s, m, ι, hk, .sl _ id off len _ cap β hβ hl hc hn hb (fun _ => rfl), ?_⟩
       have e1 : s.set id (.arr true β.sz els) = s := by
        obtain ⟨q1, q2⟩ := List.getElem?_eq_some_iff.1 hss
        rw [← q2]
        exact List.set_getElem_self q1
       rwa [e1] at key
      ·exact hk.elim
    ·exact hk.elim
   ·cases hl2
  ·cases hl2
 split at hk
 rotate_left
 ·rename_i hl3
  simp only [Bool.and_eq_true] at hl3
  split at hk
  ·obtain ⟨rfl, _⟩ := rx.int_inv
   have hi := hl3.2
   unfold intStr at hi
   split at hi
   ·rename_i hs hd
    refine Goes.here h (x := .string (Utf8.encode _)) ?_ (.str _ _ (encode_size _)) hk
    simp [execOp, ho, hvx, convert, run_und hs, run_und hd, Conv.intToString]
   ·cases hi
  ·exact hk.elim
 unfold convK at hk
 split at hk
 ·rename_i d k j n hs hd
  obtain ⟨rfl, _⟩ := rx.int_inv
  refine Goes.here h (x := .int k (k.wrap n)) ?_ (wrapR _ _) hk
  simp [execOp, ho, hvx, convert, run_und hs, run_und hd, Conv.intToInt]
 ·rename_i d b hs hd
  obtain ⟨rfl, hb⟩ := rx.str_inv
  refine Goes.here h (x := .string b) ?_ (.str _ _ hb) hk
  simp [execOp, ho, hvx, convert, run_und hs, run_und hd]
 ·rename_i x2 el hs hd hns
  split at hk
  ·rename_i he
   split at hk
   ·rename_i xx els
    obtain ⟨hk, ⟨hsome⟩⟩ := hk
    obtain ⟨l, hl⟩ := Option.isSome_iff_exists.1 hsome
    obtain ⟨vs, p, cap, rfl, hc1, hx1, hl1, fl, src1, ha⟩ := row_cells (P := P) (w := w) rx h.mok (each1 hl)
    have hrun := run_bytesStr (P := P) (cap := cap) hs he hd hl fl ha
    refine Goes.here h (x := .string (strOfNums l)) ?_ (.str _ _ (lenStr hl hl1)) (hk l hl)
    simp [execOp, ho, hvx, hrun]
   ·rename_i id off len
    rw [at?_eq] at hk
    cases rx with
    | sl _ _ _ _ p cap β hβ hl hc hn hb ha =>
     split at hk
     ·rename_i wr sz els hss
      obtain ⟨hk, ⟨hsome⟩⟩ := hk
      obtain ⟨l, hl2⟩ := Option.isSome_iff_exists.1 hsome
      obtain ⟨vs, et, fr, rfl, hh, hvl, hcap, hnn, hel, hszs, hcs, ⟨hfo, hfr⟩, hml, hmn⟩ := h.obj id _ β hss hβ
      have hlen : ((els.drop off).take len).length = len := by simp; omega
      have hle : els.length * β.sz ≤ vs.length := by rw [hvl]; exact Nat.mul_le_mul_right _ hcap
      have fl := Flat.part hcs hszs hle off len (by omega)
      have hrun : (convert src dst (.slice p len cap)).run P w = .ok (.string (strOfNums l)) w := by
       rcases Nat.eq_zero_or_pos len with q | q
       ·subst q
        have e0 : (els.drop off).take 0 = [] := by simp
        rw [e0] at hl2
        exact run_bytesStr (P := P) (els := []) (vs := []) (cap := cap) hs he hd hl2 (Flat.nil m 1) (fun z => absurd rfl z)
       ·have hs1 : β.sz = 1 := by
         have hne : 0 < ((els.drop off).take len).length := by omega
         have h1 := each1 hl2 _ (List.getElem_mem hne)
         have h2 := hszs _ (List.mem_of_mem_drop (List.mem_of_mem_take (List.getElem_mem hne)))
         omega
        obtain rfl := ha (by omega)
        rw [hs1] at fl
        have := run_bytesStr (P := P) (w := w) (p := some ⟨β.blk, off * β.sz, none⟩) (cap := cap) hs he hd hl2 fl (fun _ => ⟨_, _, rfl, fun j y hj => by
         rw [List.getElem?_take] at hj
         split at hj
         ·rw [List.getElem?_drop] at hj
          rw [cell_heap hh, hs1]
          exact hj
         ·cases hj⟩)
        rwa [hlen] at this
      refine Goes.here h (x := .string (strOfNums l)) ?_ (.str _ _ (lenStr hl2 (by omega))) (hk l hl2)
      simp [execOp, ho, hvx, hrun]
     ·exact hk.elim
   ·exact hk.elim
  ·exact hk.elim
 ·rename_i el b hs hd
  obtain ⟨rfl, hb⟩ := rx.str_inv
  split at hk
  ·rename_i he hz
   obtain ⟨⟨hbs⟩, hk⟩ := hk
   rw [litK_eq] at hk
   have hrun := Lib.run_convert_string_bytes (P := P) w src dst el b hs hd he
   unfold Goes
   have hrun2 : (execOp a.eval o).run P w = .ok (.value (.slice (some ⟨w.heap.size, 0, none⟩) b.size (grownCap w b.size 0 el))) (Lib.bytesWorld w el b) := by
    simp [execOp, ho, hvx, hrun]
   rw [hrun2]
   have hge := grownCap_ge w b.size 0 el
   have hbel : Below w.heap.size w (Lib.bytesWorld w el b) := ⟨rfl, rfl, rfl, by rw [Lib.bytesWorld_size]; omega, fun j hj => Lib.bytesWorld_at_old w el b j hj⟩
   have hcells : (Lib.bytesCells w el b).toList = (b.data.toList.map fun c => Value.int .u8 c.toNat) ++ List.replicate (grownCap w b.size 0 el - b.size) (.int .u8 0) := by
    simp [Lib.bytesCells]
   have hsz : (Lib.bytesCells w el b).size = grownCap w b.size 0 el := by
    have := congrArg List.length hcells
    simp at this
    rw [this]
    omega
   have hat := Lib.bytesWorld_at_new w el b
   refine ⟨_, _, m, ι ++ [⟨w.heap.size, grownCap w b.size 0 el, 1, b.size⟩], hk, .sl _ s.length 0 _ _ _ ⟨w.heap.size, grownCap w b.size 0 el, 1, b.size⟩ (by rw [← h.len]; simp) hge (by simp) (by simp) hb (fun _ => by simp), ?_⟩
   refine h.new hbel (by rw [Lib.bytesWorld_size]; omega) rfl ⟨(Lib.bytesCells w el b).toList, el, _, rfl, by rw [Array.toArray_toList]; exact hat, by simp [hsz], by simpa using hge, by simp, by simpa using hb, by simp, fun i j el' c hi hj => ?_, ⟨by simp, fun i hi => ?_⟩, fun o _ => h.mok.none_ (Nat.le_refl _) o, fun _ o => h.mok.none_ (Nat.le_refl _) o⟩
   ·obtain ⟨x, hx, rx⟩ := (flat_bytes m b).rep i j el' c hi hj
    exact ⟨x, by rw [hcells, List.getElem?_append_left (List.getElem?_eq_some_iff.1 hx).1]; exact hx, rx⟩
   ·simp only [Array.length_toList] at hi
    omega
  ·exact hk.elim
 ·exact hk.elim
end
end Go.Proofs.YtcbknemdidehlaaGreatDoor.Ab
namespace Go.Proofs.YtcbknemdidehlaaGreatDoor.Ab
open Go.RowKit
set_option linter.unusedVariables false
set_option linter.unusedSimpArgs false
section
variable {l : Bool} {P : Program} {w0 : Base} {m0 : Mem} {N : Nat} {m : Mem} {ι : List Blk} {e : Env} {s : List O} {a : Act} {w : World} {o : Oper} {K : V → List O → Prop}
theorem set_all (off : Nat) : ∀ (new : List Value) (k : Nat) (cells : Array Value), off + k + new.length ≤ cells.size →
  ((new.zipIdx k).foldl (fun cs x => cs.setIfInBounds (off + x.2) x.1) cells).toList = cells.toList.take (off + k) ++ new ++ cells.toList.drop (off + k + new.length)
 | [], k, cells, h => by simp
 | v :: new, k, cells, h => by
  simp only [List.length_cons] at h
  have hi : off + k < cells.toList.length := by simp; omega
  have ih := set_all off new (k + 1) (cells.setIfInBounds (off + k) v) (by simp; omega)
  simp only [List.zipIdx_cons, List.foldl_cons]
  rw [ih]
  have e3 : (cells.toList.set (off + k) v).take (off + (k + 1)) = cells.toList.take (off + k) ++ [v] := by
   rw [show off + (k + 1) = off + k + 1 by omega, List.take_succ_eq_append_getElem (by simpa using hi), List.getElem_set_self, List.take_set, List.set_eq_of_length_le (by rw [List.length_take]; omega)]
  rw [Array.toList_setIfInBounds, e3, List.drop_set_of_lt (show off + k < off + (k + 1) + new.length by omega), show off + (k + 1) + new.length = off + k + (new.length + 1) by omega]
  simp only [List.append_assoc, List.singleton_append, List.cons_append, List.nil_append, List.length_cons]
theorem fill_one {place : Nat → Option (Nat × Nat)} {i off n : Nat} {v : Value} (hp : place i = some (off, n)) (hs : v.cells.size = n) {cells : Array Value} (hl : off + n ≤ cells.size) (rest : List (Nat × Value)) :
  Instr.fill place cells ((i, v) :: rest) = Instr.fill place (cells.toList.take off ++ v.cells.toList ++ cells.toList.drop (off + v.cells.toList.length)).toArray rest := by
 have h1 : ¬ (v.cells.size ≠ n || off + v.cells.size > cells.size) = true := by simp [hs]; omega
 simp only [Instr.fill, hp]
 rw [if_neg h1]
 congr 1
 apply Array.ext'
 rw [← Array.foldl_toList, Array.toList_zipIdx]
 have := set_all off v.cells.toList 0 cells (by simp; omega)
 simpa using this
inductive Parts (m : Mem) (ι : List Blk) : List (Nat × V) → List (Nat × Value) → Prop
 | nil : Parts m ι [] []
 | cons (i : Nat) (v : V) (x : Value) (r : Rep m ι v x) (ps : List (Nat × V)) (qs : List (Nat × Value)) (h : Parts m ι ps qs) : Parts m ι ((i, v) :: ps) ((i, x) :: qs)
theorem Parts.map {α : Type} {m : Mem} {ι : List Blk} (f : α → V) (g : α → Value) : ∀ (l : List (Nat × α)), (∀ q ∈ l, Rep m ι (f q.2) (g q.2)) → Parts m ι (l.map fun q => (q.1, f q.2)) (l.map fun q => (q.1, g q.2))
 | [], _ => .nil
 | q :: l, h => .cons _ _ _ (h q List.mem_cons_self) _ _ (Parts.map f g l fun x hx => h x (List.mem_cons_of_mem _ hx))
theorem fillS_sound {fs : Array Field} {place : Nat → Option (Nat × Nat)} (hp : ∀ (i : Nat) f n, fs[i]? = some f → szT P f.type = some n → place i = some (f.offset, n)) {ps : List (Nat × V)} {qs : List (Nat × Value)} (r : Parts m ι ps qs) :
  ∀ (cs cs' : List V) (cells : Array Value), RepL m ι cs cells.toList → fillS P fs cs ps = some cs' → ∃ cells', Instr.fill place cells qs = some cells' ∧ RepL m ι cs' cells'.toList := by
 induction r with
 | nil =>
  intro cs cs' cells rc h
  simp only [fillS, Option.some.injEq] at h
  subst h
  exact ⟨cells, rfl, rc⟩
 | cons i v x rv ps qs _ ih =>
  intro cs cs' cells rc h
  simp only [fillS] at h
  split at h
  ·rename_i f new hf hnew
   split at h
   ·rename_i n hn
    split at h
    ·rename_i h1 h2
     have h1 := Nat.eq_of_beq_eq_true h1
     have h2 := Nat.le_of_ble_eq_true h2
     have rn := rv.cells hnew
     have hsz : x.cells.size = n := by rw [← h1, rn.1]; simp
     have hcl : cs.length = cells.size := by rw [rc.1]; simp
     rw [fill_one (hp i f n hf hn) hsz (by omega)]
     exact ih _ _ _ (by simpa using rc.splice rn f.offset) h
    ·cases h
   ·cases h
  ·cases h
theorem fillA_sound {sz : Nat} {ps : List (Nat × V)} {qs : List (Nat × Value)} (r : Parts m ι ps qs) :
  ∀ (cs cs' : List V) (cells : Array Value), RepL m ι cs cells.toList → fillA sz cs ps = some cs' → ∃ cells', Instr.fill (fun i => some (i * sz, sz)) cells qs = some cells' ∧ RepL m ι cs' cells'.toList := by
 induction r with
 | nil =>
  intro cs cs' cells rc h
  simp only [fillA, Option.some.injEq] at h
  subst h
  exact ⟨cells, rfl, rc⟩
 | cons i v x rv ps qs _ ih =>
  intro cs cs' cells rc h
  simp only [fillA] at h
  split at h
  ·rename_i new hnew
   split at h
   ·rename_i h1 h2
    have h1 := Nat.eq_of_beq_eq_true h1
    have h2 := Nat.le_of_ble_eq_true h2
    have rn := rv.cells hnew
    have hsz : x.cells.size = sz := by rw [← h1, rn.1]; simp
    have hcl : cs.length = cells.size := by rw [rc.1]; simp
    rw [fill_one (n := sz) (off := i * sz) rfl hsz (by omega)]
    exact ih _ _ _ (by simpa using rc.splice rn (i * sz)) h
   ·cases h
  ·cases h
theorem Flat.set {sz : Nat} {els : List (List V)} {vs new' : List Value} {new : List V} {i : Nat} (f : Flat m sz els vs) (hi : i < els.length) (rn : RepL m [] new new') (hn : new.length = sz) :
  Flat m sz (els.set i new) (vs.take (i * sz) ++ new' ++ vs.drop (i * sz + new'.length)) := by
 have hnl := rn.1
 have hle : (i + 1) * sz ≤ els.length * sz := Nat.mul_le_mul_right _ hi
 rw [Nat.add_mul, Nat.one_mul, ← f.len] at hle
 refine ⟨?_, fun el he => ?_, fun k j el c hk hj => ?_⟩
 ·simp only [List.length_append, List.length_take, List.length_drop, List.length_set, ← f.len]
  omega
 ·rcases List.mem_or_eq_of_mem_set he with q | q
  ·exact f.each el q
  ·subst q; exact hn
 ·rw [List.getElem?_set] at hk
  have hjl := (List.getElem?_eq_some_iff.1 hj).1
  split at hk
  ·rename_i hki
   subst hki
   obtain rfl := Option.some.inj hk
   obtain ⟨x, hx, rx⟩ := rn.get hj
   refine ⟨x, ?_, rx⟩
   rw [List.append_assoc, List.getElem?_append_right (by rw [List.length_take]; omega), List.getElem?_append_left (by rw [List.length_take]; omega), ← hx]
   congr 1
   rw [List.length_take]
   omega
  ·rename_i hki
   obtain ⟨x, hx, rx⟩ := f.rep k j el c hk hj
   refine ⟨x, ?_, rx⟩
   have hlt := (List.getElem?_eq_some_iff.1 hx).1
   have hel := f.each el (List.mem_of_getElem? hk)
   rcases Nat.lt_or_gt_of_ne hki with q | q
   ·have : (i + 1) * sz ≤ k * sz := Nat.mul_le_mul_right _ q
    rw [Nat.add_mul, Nat.one_mul] at this
    rw [List.getElem?_append_right (by simp only [List.length_append, List.length_take]; omega), List.getElem?_drop, ← hx]
    congr 1
    simp only [List.length_append, List.length_take]
    omega
   ·have : (k + 1) * sz ≤ i * sz := Nat.mul_le_mul_right _ q
    rw [Nat.add_mul, Nat.one_mul] at this
    rw [List.append_assoc, List.getElem?_append_left (by rw [List.length_take]; omega), List.getElem?_take, if_pos (by omega)]
    exact hx
theorem fillR_sound {sz : Nat} {ps : List (Nat × V)} {qs : List (Nat × Value)} (r : Parts m [] ps qs) :
  ∀ (els els' : List (List V)) (cells : Array Value), Flat m sz els cells.toList → fillR sz els ps = some els' → ∃ cells', Instr.fill (fun i => some (i * sz, sz)) cells qs = some cells' ∧ Flat m sz els' cells'.toList ∧ els'.length = els.length := by
 generalize hι : ([] : List Blk) = ι0 at r
 induction r with
 | nil =>
  intro els els' cells rc h
  simp only [fillR, Option.some.injEq] at h
  subst h
  exact ⟨cells, rfl, rc, rfl⟩
 | cons i v x rv ps qs _ ih =>
  intro els els' cells rc h
  subst hι
  simp only [fillR] at h
  split at h
  ·rename_i new hnew
   split at h
   ·rename_i h1 h2
    have h1 := Nat.eq_of_beq_eq_true h1
    have h2 : i < els.length := Nat.le_of_ble_eq_true h2
    have rn := rv.cells hnew
    have hsz : x.cells.size = sz := by rw [← h1, rn.1]; simp
    have hle : (i + 1) * sz ≤ els.length * sz := Nat.mul_le_mul_right _ h2
    rw [Nat.add_mul, Nat.one_mul, ← rc.len, Array.length_toList] at hle
    rw [fill_one (n := sz) (off := i * sz) rfl hsz (by omega)]
    rw [setAt_eq] at h
    have f2 := rc.set h2 rn h1
    obtain ⟨c', q1, q2, q3⟩ := ih _ _ (cells.toList.take (i * sz) ++ x.cells.toList ++ cells.toList.drop (i * sz + x.cells.toList.length)).toArray f2 h
    exact ⟨c', q1, q2, by simpa using q3⟩
   ·cases h
  ·cases h
theorem parts_ok {t : TypeId} {ps : Array (Nat × Operand)} (h : St w0 m0 N m ι e s a w) (hc : (ps.toList.map (·.2)).all okX = true) :
  Parts m ι (ps.toList.map fun q => (q.1, ev e q.2)) (ps.map fun q => (q.1, a.eval q.2)).toList := by
 rw [Array.toList_map]
 exact Parts.map (ev e) a.eval ps.toList fun q hq => h.at (List.all_eq_true.1 hc _ (List.mem_map_of_mem hq))
theorem mapM_places : ∀ (fs : List Field) (places : List (Nat × Nat)), fs.mapM (fun f => (P.info? f.type).map fun i => (f.offset, i.size)) = some places →
  ∀ (i : Nat) f n, fs[i]? = some f → szT P f.type = some n → places[i]? = some (f.offset, n)
 | [], places, h, i, f, n, hf, _ => by simp at hf
 | g :: fs, places, h, i, f, n, hf, hn => by
  simp only [List.mapM_cons, Option.bind_eq_bind, Option.pure_def] at h
  cases hi : P.info? g.type with
  | none => simp [hi] at h
  | some inf =>
   cases hr : fs.mapM (fun f => (P.info? f.type).map fun i => (f.offset, i.size)) with
   | none => simp [hi, hr] at h
   | some rest =>
    simp [hi, hr] at h
    subst h
    cases i with
    | zero =>
     simp at hf
     subst hf
     simp [szT, hi] at hn
     simp [hn]
    | succ i => simpa using mapM_places fs rest hr i f n (by simpa using hf) hn
theorem goes_build (h : St w0 m0 N m ι e s a w) {t : TypeId} {ps : Array (Nat × Operand)} (ho : o.op = .build t ps) (hc : (ps.toList.map (·.2)).all okX = true) (hz : zOk P t = true)
  (hpl : (match P.underlying t with | some (.struct fs) => (fs.toList.mapM (fun f => (P.info? f.type).map fun i => (f.offset, i.size))).isSome | _ => true) = true) (hk : opK P l e s o K) : Goes P o a w (Lv w0 m0 N e a K) := by
 simp only [opK, ho] at hk
 have rp := parts_ok (t := t) h hc
 have zero_ : ∀ {z : List V}, (zeroT P t).bind cellsV = some z → ∃ it zv, P.info? t = some it ∧ it.zero = some zv ∧ RepL m ι z zv.cells.toList := by
  intro z hzz
  rw [Option.bind_eq_some_iff] at hzz
  obtain ⟨zz, hz1, hz2⟩ := hzz
  unfold zeroT at hz1
  rw [Option.map_eq_some_iff] at hz1
  obtain ⟨zv, hzv, rfl⟩ := hz1
  rw [Option.bind_eq_some_iff] at hzv
  obtain ⟨it, hit, hzv⟩ := hzv
  have hok : cOk zv = true := by simpa [zOk, hit, hzv] using hz
  exact ⟨it, zv, hit, hzv, (ofC_rep m ι zv hok).cells hz2⟩
 have fin : ∀ {cells' : Array Value} {cs : List V}, P.built t (ps.map fun q => (q.1, a.eval q.2)).toList = some cells' → RepL m ι cs cells'.toList → K (.agg cs) s → Goes P o a w (Lv w0 m0 N e a K) := by
  intro cells' cs hb r k
  have hrun := run_build (P := P) w t (ps.map fun q => (q.1, a.eval q.2)) cells' hb
  have ra := Rep.aggL r
  rw [Array.toArray_toList] at ra
  exact Goes.here h (by simp [execOp, ho]; simpa using congrArg (fun r : Result Value => r.andThen fun v w => Result.ok (Next.value v) w) hrun) ra k
 split at hk
 ·rename_i fs z hu hzz
  split at hk
  ·rename_i cs hcs
   obtain ⟨it, zv, hit, hzv, rz⟩ := zero_ hzz
   rw [hu] at hpl
   obtain ⟨places, hpl2⟩ := Option.isSome_iff_exists.1 hpl
   obtain ⟨cells', h1, h2⟩ := fillS_sound (P := P) (fs := fs) (place := (places.toArray[·]?)) (fun i f n hf hn => by
    have := mapM_places (P := P) _ _ hpl2 i f n (by simpa using hf) hn
    simpa using this) rp z cs zv.cells rz hcs
   exact fin (by simp only [Program.built, hit, hu, hzv, hpl2]; exact h1) h2 hk
  ·exact hk.elim
 ·rename_i n el z hu hzz
  split at hk
  ·rename_i sz hsz
   split at hk
   ·rename_i cs hcs
    obtain ⟨it, zv, hit, hzv, rz⟩ := zero_ hzz
    unfold szT at hsz
    rw [Option.map_eq_some_iff] at hsz
    obtain ⟨ie, hie, rfl⟩ := hsz
    obtain ⟨cells', h1, h2⟩ := fillA_sound rp z cs zv.cells rz hcs
    exact fin (by simp only [Program.built, hit, hu, hzv, hie]; exact h1) h2 hk
   ·exact hk.elim
  ·exact hk.elim
 ·exact hk.elim
def addB (m : Mem) (b : Nat) (vs : List Value) : Mem := fun b' o => if b' = b then vs[o]? else m b' o
theorem St.newRow (h : St w0 m0 N m ι e s a w) {els : List (List V)} {vs : List Value} {sz : Nat} (f : Flat m sz els vs) (hl : els.length ≤ 9223372036854775807) (t : TypeId) :
  m.le (addB m w.heap.size vs) ∧ Rep (addB m w.heap.size vs) ι (.row true els) (.slice (some ⟨w.heap.size, 0, none⟩) els.length els.length) ∧ St w0 m0 N (addB m w.heap.size vs) ι e s a (wnew w vs t) := by
 have hle : m.le (addB m w.heap.size vs) := fun b o v hv => by
  have := h.mok.lt hv
  unfold addB
  rw [if_neg (by omega)]
  exact hv
 refine ⟨hle, ?_, h.grow hle ?_ (below_new w vs t) ?_⟩
 ·refine .row ι true els _ els.length sz w.heap.size 0 (fun i j => vs.getD (i * sz + j) undef) (fun _ => rfl) (Nat.le_refl _) hl f.each (fun _ => rfl) ?_ ?_
  ·intro i j el c hi hj
   obtain ⟨x, hx, _⟩ := f.rep i j el c hi hj
   simp only [addB, Nat.zero_add, if_pos rfl]
   rw [List.getD_eq_getElem?_getD, hx]
   rfl
  ·intro i j el c hi hj
   obtain ⟨x, hx, rx⟩ := f.rep i j el c hi hj
   rw [List.getD_eq_getElem?_getD, hx]
   exact rx.mono hle
 ·intro b o v hv
  unfold addB at hv
  split at hv
  ·rename_i hb
   subst hb
   rw [cell_heap (wnew_at w vs t)]
   exact hv
  ·rename_i hb
   have := h.mok.lt hv
   rw [World.cell?_of_block (w := w) (a := ⟨b, o, none⟩) ((below_new w vs t).block b this)]
   exact h.mok b o v hv
 ·intro b o x hx hn
  unfold addB at hx
  split at hx
  ·omega
  ·rw [hn] at hx; cases hx
theorem goes_buildSlice (h : St w0 m0 N m ι e s a w) {t : TypeId} {len : Nat} {ps : Array (Nat × Operand)} (ho : o.op = .buildSlice t len ps) (hc : (ps.toList.map (·.2)).all okX = true)
  (hz : (match P.underlying t with | some (.slice el) => zOk P el | _ => true) = true) (hk : opK P l e s o K) : Goes P o a w (Lv w0 m0 N e a K) := by
 simp only [opK, ho, fR_eq] at hk
 split at hk
 ·rename_i el hu
  rw [hu] at hz
  split at hk
  ·rename_i z n hzz hn
   split at hk
   ·rename_i els h1 h2 h3 h4
    have h1 := Nat.le_of_ble_eq_true h1
    have h2 := Nat.eq_of_beq_eq_true h2
    have h3 : 0 < n := Nat.le_of_ble_eq_true h3
    rw [Option.bind_eq_some_iff] at hzz
    obtain ⟨zz, hz1, hz2⟩ := hzz
    obtain ⟨zv, hzv, rfl, hok⟩ := run_zero (w := w) hz1 hz
    have rvs : RepL m ι (ps.toList.map fun q => ev e q.2) ((ps.map fun q => a.eval q.2).toList) := by
     rw [Array.toList_map]
     exact RepL.map _ _ _ fun q hq => h.at (List.all_eq_true.1 hc _ (List.mem_map_of_mem hq))
    obtain ⟨m', hle, h', rl'⟩ := h.freeze rvs
    have rp : Parts m' [] (ps.toList.map fun q => (q.1, frz 8 s (ev e q.2))) (ps.map fun q => (q.1, a.eval q.2)).toList := by
     rw [Array.toList_map]
     refine Parts.map (fun x => frz 8 s (ev e x)) a.eval ps.toList fun q hq => ?_
     obtain ⟨i, hi, rfl⟩ := List.mem_iff_getElem.1 hq
     exact rl'.2 i _ _ (by rw [List.getElem?_map, List.getElem?_map, List.getElem?_eq_getElem hi]; rfl) (by rw [Array.toList_map, List.getElem?_map, List.getElem?_eq_getElem hi]; rfl)
    have rz : RepL m' [] z zv.cells.toList := (ofC_rep m' [] zv hok).cells hz2
    have hzn : zv.cells.size = n := by rw [← h2, rz.1]; simp
    have f0 : Flat m' n (List.replicate len z) ((Array.range (len * n)).map (zv.cells[· % zv.cells.size]!)).toList := by
     refine ⟨by simp, fun el he => by rw [List.eq_of_mem_replicate he, h2], fun i j el' c hi hj => ?_⟩
     have hil : i < len := by have := (List.getElem?_eq_some_iff.1 hi).1; simpa using this
     rw [List.getElem?_replicate, if_pos hil] at hi
     obtain rfl := Option.some.inj hi
     obtain ⟨x, hx, rx⟩ := rz.get hj
     refine ⟨x, ?_, rx⟩
     have hjn : j < n := by have := (List.getElem?_eq_some_iff.1 hj).1; omega
     have hb : i * n + j < len * n := by
      have : (i + 1) * n ≤ len * n := Nat.mul_le_mul_right _ hil
      rw [Nat.add_mul, Nat.one_mul] at this
      omega
     have hm : (i * n + j) % n = j := by rw [Nat.add_comm, Nat.add_mul_mod_self_right, Nat.mod_eq_of_lt hjn]
     have hx2 : zv.cells[j]? = some x := by simpa using hx
     have hb2 : zv.cells[j]! = x := by
      rw [Array.getElem!_eq_getD, Array.getD_eq_getD_getElem?, hx2]
      rfl
     simp [hb, hzn, hm, hb2]
    obtain ⟨cells', hf1, hf2, hf3⟩ := fillR_sound rp _ _ _ f0 h4
    have hlen : els.length = len := by rw [hf3]; simp
    have hle2 : len ≤ 16777216 := Nat.le_trans (Nat.le_mul_of_pos_right _ h3) h1
    unfold Goes
    have hrun : (execOp a.eval o).run P w = .ok (.value (.slice (some ⟨w.heap.size, 0, none⟩) len len)) (wnew w cells'.toList el) := by
     have hnot : ¬ (len * n > 2 ^ 24) := by omega
     have hb : (Instr.buildSlice t len (ps.map fun q => (q.1, a.eval q.2))).run P w = .ok (.slice (some ⟨w.heap.size, 0, none⟩) len len) (wnew w cells'.toList el) := by
      simp only [Instr.buildSlice, Sem.run_bind, run_und hu, Result.andThen_ok, run_size hn, if_neg hnot, Sem.run_ite, Sem.run_pure]
      by_cases q : len * n = 0
      ·have e0 : (Array.range (len * n)).map (fun x => (#[] : Array Value)[x % (#[] : Array Value).size]!) = (Array.range (len * n)).map (fun x => zv.cells[x % zv.cells.size]!) := by
        apply Array.ext
        ·simp
        ·intro i hi1 hi2
         simp [q] at hi1
       rw [if_pos q, e0, hf1]
       simp [newRow, wnew]
      ·rw [if_neg q, hzv]
       simp only [Result.andThen_ok, hf1]
       simp [newRow, wnew]
     simp only [execOp, ho, Sem.run_bind]
     simpa using congrArg (fun r : Result Value => r.andThen fun v w => Result.ok (Next.value v) w) hb
    rw [hrun]
    have e1 : ps.toList.flatMap (fun q => idl 8 s (ev e q.2)) = (ps.toList.map fun q => ev e q.2).flatMap (idl 8 s) := by simp [List.flatMap_map]
    rw [e1] at hk
    split at hk
    ·obtain ⟨hle3, rr, h''⟩ := h'.newRow hf2 (by omega) el
     rw [hlen] at rr
     exact ⟨_, _, _, ι, hk, rr, h''⟩
    ·rw [litK_eq, litK_eq] at hk
     have h'' := h'.newArr (rest := []) (c := len) hf2 (by rw [hlen]; simp) (by omega) (by omega) true el
     rw [List.append_nil] at h''
     refine ⟨_, _, m', _, hk, .sl _ _ 0 len _ len ⟨w.heap.size, len, n, els.length⟩ ?_ (Nat.le_refl _) (by simp) (by simp [hlen]) (by omega) (fun _ => by simp), h''⟩
     rw [← h.len]
     simp
   ·exact hk.elim
  ·exact hk.elim
 ·exact hk.elim
end
end Go.Proofs.YtcbknemdidehlaaGreatDoor.Ab
namespace Go.Proofs.YtcbknemdidehlaaGreatDoor.Ab
open Go.RowKit
set_option linter.unusedVariables false
set_option linter.unusedSimpArgs false
section
variable {l : Bool} {P : Program} {w0 : Base} {m0 : Mem} {N : Nat} {m : Mem} {ι : List Blk} {e : Env} {s : List O} {a : Act} {w : World} {o : Oper} {K : V → List O → Prop}
theorem opK_sound (h : St w0 m0 N m ι e s a w) (hok : okO P N o = true) (hk : opK P l e s o K) : Goes P o a w (Lv w0 m0 N e a K) := by
 have hok2 := hok
 unfold okO at hok2
 simp only [Bool.and_eq_true] at hok2
 obtain ⟨⟨_, hc⟩, hs⟩ := hok2
 cases ho : o.op with
 | move x =>
  rw [ho] at hc
  have hx : okX x = true := by simpa [Op.operands] using hc
  simp only [opK, ho] at hk
  exact Goes.here h (by simp [execOp, ho]) (h.at hx) hk
 | assign x =>
  rw [ho] at hc
  have hx : okX x = true := by simpa [Op.operands] using hc
  simp only [opK, ho] at hk
  exact Goes.here h (by simp [execOp, ho]) (h.at hx) hk
 | pick c x y =>
  rw [ho] at hc
  have hx : okX c = true ∧ okX x = true ∧ okX y = true := by simpa [Op.operands] using hc
  simp only [opK, ho] at hk
  have rc := h.at hx.1
  split at hk
  ·rename_i b hb
   rw [hb] at rc
   have hbv := rc.bool_inv
   cases b
   ·exact Goes.here h (by simp [execOp, ho, hbv, asBool]) (h.at hx.2.2) hk
   ·exact Goes.here h (by simp [execOp, ho, hbv, asBool]) (h.at hx.2.1) hk
  ·exact hk.elim
 | alloc t => rw [ho] at hs; exact goes_alloc h ho hs hk
 | box t x => rw [ho] at hc; exact goes_boxop h ho (by simpa [Op.operands] using hc) hk
 | build t ps =>
  rw [ho] at hc hs
  simp only [Bool.and_eq_true] at hs
  exact goes_build h ho (by simpa [Op.operands] using hc) hs.1 hs.2 hk
 | buildSlice t n ps => rw [ho] at hc hs; exact goes_buildSlice h ho (by simpa [Op.operands] using hc) hs hk
 | load t x => rw [ho] at hc; exact goes_load h ho (by simpa [Op.operands] using hc) hk
 | store t x y =>
  rw [ho] at hc
  have hx : okX x = true ∧ okX y = true := by simpa [Op.operands] using hc
  exact goes_store h ho hx.1 hx.2 hk
 | nilCheck x => rw [ho] at hc; exact goes_nilCheck h ho (by simpa [Op.operands] using hc) hk
 | binOp op t x y u =>
  rw [ho] at hc hs
  have hx : okX x = true ∧ okX y = true := by simpa [Op.operands] using hc
  simp only [opK, ho] at hk
  have go : binK P op t (ev e x) (ev e y) (fun v => K v s) → Goes P o a w (Lv w0 m0 N e a K) := fun hk => by
   obtain ⟨v, z, hv, rz, hr⟩ := binK_sound h hx.1 hx.2 hs hk
   exact Goes.here h (by simp only [execOp, ho, Sem.run_bind] at hr ⊢; simpa using congrArg (fun r : Result Value => r.andThen fun v w => Result.ok (Next.value v) w) hr) rz hv
  have nilc : ∀ {p : Option Addr} {len cap : Nat} {b : Bool}, a.eval x = .slice p len cap → isNilC y = true → (∃ el, P.underlying t = some (.slice el)) → p.isNone = b → (match flip op b with | some r => K (.bool r) s | none => False) → Goes P o a w (Lv w0 m0 N e a K) := by
   intro p len cap b hv hy ⟨el, hu⟩ hb hk2
   obtain ⟨c1, c2, rfl⟩ : ∃ c1 c2, y = .const (.slice none c1 c2) := by
    unfold isNilC at hy
    split at hy
    ·exact ⟨_, _, rfl⟩
    ·cases hy
   have hy2 : a.eval (.const (.slice none c1 c2)) = .slice none c1 c2 := rfl
   split at hk2
   ·rename_i r hr
    have heq0 : ∀ n, (Op.equalIn (n + 1) t (.slice p len cap) (.slice none c1 c2)).run P w = .ok b w := by
     intro n
     subst hb
     cases p <;> simp [Op.equalIn, run_und hu]
    have heq : (Op.equal t (.slice p len cap) (.slice none c1 c2)).run P w = .ok b w := heq0 9999
    unfold flip at hr
    split at hr
    ·obtain rfl := Option.some.inj hr
     refine Goes.here h (x := .bool b) ?_ (.bool _ _) hk2
     have h5 : binOp .eql t (.slice p len cap) (.slice none c1 c2) = (do pure (.bool (← Op.equal t (.slice p len cap) (.slice none c1 c2)))) := rfl
     simp only [execOp, ho, hv, hy2]; simp [eqGuard, h5, heq]
    ·obtain rfl := Option.some.inj hr
     refine Goes.here h (x := .bool (!b)) ?_ (.bool _ _) hk2
     have h5 : binOp .neq t (.slice p len cap) (.slice none c1 c2) = (do pure (.bool (!(← Op.equal t (.slice p len cap) (.slice none c1 c2))))) := rfl
     simp only [execOp, ho, hv, hy2]; simp [eqGuard, h5, heq]
    ·cases hr
   ·exact hk2.elim
  split at hk
  ·rename_i hlb
   rw [Bool.and_eq_true] at hlb
   split at hk
   ·rename_i el xx els hu hev
    have r := h.at hx.1
    rw [hev] at r
    generalize hv : a.eval x = vx at r
    cases r with
    | row _ _ _ p cap sz b off g hx1 hc1 hl1 hs1 ha1 hm1 hr1 =>
     cases hpn : p.isNone with
     | false => exact nilc hv hlb.2 ⟨el, hu⟩ hpn hk.2
     | true => exact nilc hv hlb.2 ⟨el, hu⟩ hpn (hk.1 (Decidable.byContradiction fun hne => by rw [ha1 hne] at hpn; cases hpn))
   ·rename_i el id off len hu hev
    have r := h.at hx.1
    rw [hev] at r
    generalize hv : a.eval x = vx at r
    cases r with
    | sl _ _ _ _ p cap β hβ hl hc hn hb ha =>
     cases hpn : p.isNone with
     | false => exact nilc hv hlb.2 ⟨el, hu⟩ hpn hk.2
     | true => exact nilc hv hlb.2 ⟨el, hu⟩ hpn (hk.1 (Decidable.byContradiction fun hne => by rw [ha (by omega)] at hpn; cases hpn))
   ·exact go hk
  ·exact go hk
 | unOp op t x => rw [ho] at hc; exact goes_unOp h ho (by simpa [Op.operands] using hc) hk
 | convert x y z => rw [ho] at hc; exact goes_convert h ho (by simpa [Op.operands] using hc) hk
 | makeInterface t x => rw [ho] at hc; exact goes_makeInterface h ho (by simpa [Op.operands] using hc) hk
 | typeAssert x t u ok => rw [ho] at hc hs; exact goes_typeAssert h ho (by simpa [Op.operands] using hc) hs hk
 | makeFunc fn xs ys =>
  rw [ho] at hc
  have hx : xs.toList.all okX = true ∧ ys.toList.all okX = true := by
   simp only [Op.operands, Array.toList_append, List.all_append, Bool.and_eq_true] at hc
   exact hc
  exact goes_makeFunc h ho hx.1 hx.2 hk
 | slice t x lo hi mx => exact goes_slice h ho hc hk
 | fieldAddr t x i => rw [ho] at hc; exact goes_fieldAddr h ho (by simpa [Op.operands] using hc) hk
 | field t x i => rw [ho] at hc; exact goes_field h ho (by simpa [Op.operands] using hc) hk
 | indexAddr t x y =>
  rw [ho] at hc
  have hx : okX x = true ∧ okX y = true := by simpa [Op.operands] using hc
  exact goes_indexAddr h ho hx.1 hx.2 hk
 | index t x y =>
  rw [ho] at hc
  have hx : okX x = true ∧ okX y = true := by simpa [Op.operands] using hc
  exact goes_index h ho hx.1 hx.2 hk
 | extract x i => rw [ho] at hc; exact goes_extract h ho (by simpa [Op.operands] using hc) hk
 | lookup t x y ok =>
  rw [ho] at hc hs
  have hx : okX x = true ∧ okX y = true := by simpa [Op.operands] using hc
  rw [Bool.and_eq_true] at hs
  exact goes_lookup h ho hx.1 hx.2 hs.1 hs.2 hk
 | mapUpdate t x y z =>
  rw [ho] at hc hs
  have hx : okX x = true ∧ okX y = true ∧ okX z = true := by simpa [Op.operands] using hc
  exact goes_mapUpdate h ho hx.1 hx.2.1 hx.2.2 hs hk
 | mapEntry t x y =>
  rw [ho] at hc hs
  have hx : okX x = true ∧ okX y = true := by simpa [Op.operands] using hc
  rw [Bool.and_eq_true] at hs
  exact goes_mapEntry h ho hx.1 hx.2 hs.1 hs.2 hk
 | entryStore t x y z =>
  rw [ho] at hc
  have hx : okX x = true ∧ okX y = true ∧ okX z = true := by simpa [Op.operands] using hc
  exact goes_entryStore h ho hx.1 hx.2.1 hx.2.2 hk
 | makeMap t r => exact goes_makeMap h ho hk
 | range t x => rw [ho] at hc; exact goes_range h ho (by simpa [Op.operands] using hc) hk
 | next x b => rw [ho] at hc; exact goes_next h ho (by simpa [Op.operands] using hc) hk
 | entry x => rw [ho] at hc; exact goes_entry h ho (by simpa [Op.operands] using hc) hk
 | call c => rw [ho] at hs; exact goes_call h ho hc (Nat.eq_of_beq_eq_true hs) hk
 | _ => simp [opK, ho] at hk
theorem wanted_bool {ops : Array Oper} (h : St w0 m0 N m ι e s a w) {j t : Nat} {want b : Bool} (hg : o.guard = some (j, want)) (hd : (ops[j]?).bind (·.dst) = some t) (he : e.get t = .bool b) :
  Region.wanted o (yielded ops a.tmps) = (b == want) := by
 have r := h.env t
 rw [he] at r
 have hv := r.bool_inv
 have : a.tmps[t]? = some (.bool b) := by
  rw [Array.getD_eq_getD_getElem?] at hv
  cases q : a.tmps[t]? with
  | none => rw [q] at hv; cases hv
  | some x => rw [q] at hv; simpa using hv
 simp [Region.wanted, hg, yielded, hd, this]
theorem wanted_skip {ops : Array Oper} (h : St w0 m0 N m ι e s a w) {j t : Nat} {want : Bool} (hg : o.guard = some (j, want)) (hd : (ops[j]?).bind (·.dst) = some t) (he : e.get t = .tup []) :
  Region.wanted o (yielded ops a.tmps) = false := by
 have r := h.env t
 rw [he] at r
 obtain ⟨vs, hv, rv⟩ := r.tup_inv
 have hvs : vs = [] := List.eq_nil_of_length_eq_zero rv.1.symm
 subst hvs
 have : a.tmps[t]? = none ∨ a.tmps[t]? = some (.tuple #[]) := by
  rw [Array.getD_eq_getD_getElem?] at hv
  cases q : a.tmps[t]? with
  | none => exact .inl rfl
  | some x => rw [q] at hv; exact .inr (by simpa using hv)
 rcases this with q | q <;> simp [Region.wanted, hg, yielded, hd, q]
theorem okO_dst (hok : okO P N o = true) : ∀ t, o.dst = some t → t < N := by
 intro t ht
 unfold okO at hok
 simp only [Bool.and_eq_true] at hok
 have := hok.1.1
 rw [ht] at this
 exact Nat.le_of_ble_eq_true this
theorem opsK_sound {ops : Array Oper} (hall : ∀ o ∈ ops.toList, okO P N o = true) {K : Env → List O → Prop} {Q : Exit → Act → World → Prop} (hQ : ∀ e s m ι a w, St w0 m0 N m ι e s a w → K e s → Q .normal a w) :
  ∀ (os : List Oper) (i : Nat), ops.toList.drop i = os → ∀ (e : Env) (s : List O) (m : Mem) (ι : List Blk) (a : Act) (w : World), St w0 m0 N m ι e s a w → opsK P l ops os K e s → wpOps P ops Q (List.range' i os.length) a w
 | [], i, _, e, s, m, ι, a, w, h, hk => hQ e s m ι a w h hk
 | o :: os, i, hd, e, s, m, ι, a, w, h, hk => by
  have hi : ops[i]? = some o := by
   have : (ops.toList.drop i)[0]? = some o := by rw [hd]; rfl
   simpa using this
  have hok := hall o (List.mem_of_mem_drop (i := i) (by rw [hd]; exact List.mem_cons_self))
  have hd' : ops.toList.drop (i + 1) = os := by rw [← List.tail_drop, hd]; rfl
  have ih := opsK_sound hall hQ os (i + 1) hd'
  have go : ∀ {e : Env}, St w0 m0 N m ι e s a w → (opK P l e s o fun v s' => fV 4 v fun v => fL fO s' fun s' => putK e o.dst v fun e => opsK P l ops os K e s') →
    o.wp P a w (wpOps P ops Q (List.range' (i + 1) os.length)) Q := by
   intro e h hk
   refine Goes.wp ((opK_sound h hok hk).mono ?_)
   rintro x w' ⟨v, s', m', ι', hk2, rv, h2⟩
   rw [fV_eq, fL_eq fO_eq, putK_eq] at hk2
   exact ih _ _ _ _ _ _ (h2.put (okO_dst hok) rv) hk2
  have no : ∀ {e : Env}, St w0 m0 N m ι e s a w → (putK e o.dst (.tup []) fun e => opsK P l ops os K e s) → wpOps P ops Q (List.range' (i + 1) os.length) (a.put o.dst undef) w := by
   intro e h hk
   rw [putK_eq] at hk
   exact ih _ _ _ _ _ _ (h.put (okO_dst hok) (Rep.tupL (vs := []) (RepL.nil m ι))) hk
  simp only [List.length_cons, List.range'_succ, wpOps, hi]
  rw [opsK_cons] at hk
  unfold opsC at hk
  split at hk
  ·rename_i hg
   have : Region.wanted o (yielded ops a.tmps) = true := by simp [Region.wanted, hg]
   rw [if_pos this]
   exact .inl (go h hk)
  ·rename_i j want hg
   split at hk
   ·rename_i t ht
    split at hk
    ·rename_i b hb
     have hw := wanted_bool h hg ht hb
     have rb : Rep m ι (.bool b) (a.tmps.getD t undef) := hb ▸ h.env t
     cases want <;> cases b <;> simp only [csplit, setK_eq] at hk
     ·rw [if_pos (by rw [hw]; rfl)]
      exact .inl (go (h.say rb) hk)
     ·rw [if_neg (by rw [hw]; decide)]
      exact no (h.say rb) hk
     ·rw [if_neg (by rw [hw]; decide)]
      exact no (h.say rb) hk
     ·rw [if_pos (by rw [hw]; rfl)]
      exact .inl (go (h.say rb) hk)
    ·rename_i hb
     have hw := wanted_skip h hg ht hb
     rw [if_neg (by rw [hw]; decide)]
     exact no h hk
    ·exact hk.elim
   ·exact hk.elim
end
end Go.Proofs.YtcbknemdidehlaaGreatDoor.Ab
namespace Go.Proofs.YtcbknemdidehlaaGreatDoor.Ab
open Go.RowKit
set_option linter.unusedVariables false
set_option linter.unusedSimpArgs false
theorem memB_iff {l : List Nat} {j : Nat} : memB l j = true ↔ j ∈ l := by
 unfold memB
 rw [List.any_eq_true]
 constructor
 ·rintro ⟨x, hx, hb⟩
  rw [Nat.eq_of_beq_eq_true hb]
  exact hx
 ·intro h
  exact ⟨j, h, Nat.beq_refl j⟩
theorem rdyF_mem {done : List Nat} : ∀ (T : List (List Nat)) (k j : Nat), j ∈ rdyF done k T ↔ ∃ i d, T[i]? = some d ∧ j = k + i ∧ memB done j = false ∧ d.all (memB done) = true
 | [], k, j => by simp [rdyF]
 | d :: T, k, j => by
  have ih := rdyF_mem (done := done) T (k + 1) j
  have split' : (∃ i d', (d :: T)[i]? = some d' ∧ j = k + i ∧ memB done j = false ∧ d'.all (memB done) = true) ↔ (j = k ∧ memB done j = false ∧ d.all (memB done) = true) ∨ ∃ i d', T[i]? = some d' ∧ j = k + 1 + i ∧ memB done j = false ∧ d'.all (memB done) = true := by
   constructor
   ·rintro ⟨i, d', hd, hj, h1, h2⟩
    cases i with
    | zero => simp at hd; subst hd; exact .inl ⟨by omega, h1, h2⟩
    | succ i => exact .inr ⟨i, d', by simpa using hd, by omega, h1, h2⟩
   ·rintro (⟨hj, h1, h2⟩ | ⟨i, d', hd, hj, h1, h2⟩)
    ·exact ⟨0, d, rfl, by omega, h1, h2⟩
    ·exact ⟨i + 1, d', by simpa using hd, by omega, h1, h2⟩
  rw [split', ← ih, show rdyF done k (d :: T) = (match !memB done k && d.all (memB done) with | true => k :: rdyF done (k + 1) T | false => rdyF done (k + 1) T) from rfl]
  split
  ·rename_i h
   simp only [Bool.and_eq_true, Bool.not_eq_true'] at h
   rw [List.mem_cons]
   constructor
   ·rintro (rfl | h')
    ·exact .inl ⟨rfl, h.1, h.2⟩
    ·exact .inr h'
   ·rintro (⟨q, _, _⟩ | h')
    ·exact .inl q
    ·exact .inr h'
  ·rename_i h
   constructor
   ·exact .inr
   ·rintro (⟨rfl, h1, h2⟩ | h')
    ·simp [h1, h2] at h
    ·exact h'
structure Lst (ops : Array Oper) (listed : Array Bool) (done : List Nat) : Prop where
 size : listed.size = ops.size
 get : ∀ j, listed.getD j false = memB done j
theorem Lst.getT {ops : Array Oper} {listed : Array Bool} {done : List Nat} (h : Lst ops listed done) {j : Nat} (hj : j < ops.size) : listed.getD j true = memB done j := by
 rw [← h.get j]
 have : j < listed.size := by rw [h.size]; exact hj
 simp [Array.getD, this]
theorem Lst.start (ops : Array Oper) : Lst ops (Array.replicate ops.size false) [] := ⟨by simp, fun j => by
 rw [Array.getD_eq_getD_getElem?]
 cases q : (Array.replicate ops.size false)[j]? with
 | none => rfl
 | some x =>
  rw [Array.getElem?_replicate] at q
  split at q
  ·cases q; rfl
  ·cases q⟩
theorem Lst.step {ops : Array Oper} {listed : Array Bool} {done : List Nat} (h : Lst ops listed done) {i : Nat} (hi : i < ops.size) : Lst ops (listed.setIfInBounds i true) (i :: done) := ⟨by simp [h.size], fun j => by
 have hg := h.get j
 rw [Array.getD_eq_getD_getElem?] at hg ⊢
 rw [Array.getElem?_setIfInBounds]
 by_cases e : i = j
 ·subst e
  rw [if_pos rfl, if_pos (by rw [h.size]; exact hi)]
  simp [memB]
 ·rw [if_neg e, hg]
  have : Nat.beq j i = false := by
   cases q : Nat.beq j i
   ·rfl
   ·exact absurd (Nat.eq_of_beq_eq_true q).symm e
  simp [memB, this]⟩
theorem ready_iff {ops : Array Oper} {listed : Array Bool} {done : List Nat} (h : Lst ops listed done) (j : Nat) : j ∈ Region.ready .any ops listed ↔ j ∈ rdyF done 0 (depT ops) := by
 rw [mem_ready, rdyF_mem]
 constructor
 ·rintro ⟨h1, o, ho, h2⟩
  have hj : j < ops.size := (Array.getElem?_eq_some_iff.1 ho).1
  rw [h.getT hj] at h1
  refine ⟨j, (o.after.toList.filter (Region.binds .any)).map (·.on), ?_, by omega, h1, ?_⟩
  ·unfold depT
   rw [List.getElem?_map, Array.getElem?_toList, ho]
   rfl
  ·rw [List.all_eq_true]
   intro x hx
   obtain ⟨y, hy, rfl⟩ := List.mem_map.1 hx
   obtain ⟨hy1, hy2⟩ := List.mem_filter.1 hy
   rw [← h.get]
   exact h2 y (by simpa using hy1) hy2
 ·rintro ⟨i, d, hd, hj, h1, h2⟩
  have : i = j := by omega
  subst this
  unfold depT at hd
  rw [List.getElem?_map, Array.getElem?_toList] at hd
  cases ho : ops[i]? with
  | none => rw [ho] at hd; cases hd
  | some o =>
   rw [ho] at hd
   cases hd
   have hj : i < ops.size := (Array.getElem?_eq_some_iff.1 ho).1
   refine ⟨by rw [h.getT hj]; exact h1, o, rfl, fun y hy hb => ?_⟩
   rw [h.get]
   exact List.all_eq_true.1 h2 _ (List.mem_map.2 ⟨y, List.mem_filter.2 ⟨by simpa using hy, hb⟩, rfl⟩)
theorem allB_mem {f : Nat → Prop} : ∀ {rs : List Nat}, allB f rs → ∀ i ∈ rs, f i
 | [], _, i, hi => by cases hi
 | a :: rs, h, i, hi => by
  replace h : Bth (f a) (allB f rs) := h
  rcases List.mem_cons.1 hi with rfl | hi
  ·exact h.l
  ·exact allB_mem h.r i hi
theorem pickQ_spec {os : List Oper} : ∀ {rs : List Nat} {j : Nat}, pickQ os rs = some j → j ∈ rs ∧ ∃ o, os[j]? = some o ∧ qop o = true
 | [], j, h => by cases h
 | i :: rs, j, h => by
  unfold pickQ at h
  rw [at?_eq] at h
  split at h
  ·rename_i o ho
   split at h
   ·rename_i hq
    cases h
    exact ⟨List.mem_cons_self, o, ho, hq⟩
   ·obtain ⟨h1, h2⟩ := pickQ_spec h
    exact ⟨List.mem_cons_of_mem _ h1, h2⟩
  ·obtain ⟨h1, h2⟩ := pickQ_spec h
   exact ⟨List.mem_cons_of_mem _ h1, h2⟩
section
variable {l : Bool} {P : Program} {w0 : Base} {m0 : Mem} {N : Nat} {m : Mem} {ι : List Blk} {e : Env} {s : List O} {a : Act} {w : World} {o : Oper}
theorem opsC_sound {ops : Array Oper} {K : Env → List O → Prop} {ih : (Env → List O → Prop) → Env → List O → Prop} {R : Act → World → Prop} {Q : Exit → Act → World → Prop} {i : Nat} (hi : ops[i]? = some o) (hok : okO P N o = true)
  (hR : ∀ e s m ι a w, St w0 m0 N m ι e s a w → ih K e s → R a w) (h : St w0 m0 N m ι e s a w) (hk : opsC P l ops o ih K e s) : wpOp P ops Q i R a w := by
 have go : ∀ {e : Env}, St w0 m0 N m ι e s a w → (opK P l e s o fun v s' => fV 4 v fun v => fL fO s' fun s' => putK e o.dst v fun e => ih K e s') → o.wp P a w R Q := by
  intro e h hk
  refine Goes.wp ((opK_sound h hok hk).mono ?_)
  rintro x w' ⟨v, s', m', ι', hk2, rv, h2⟩
  rw [fV_eq, fL_eq fO_eq, putK_eq] at hk2
  exact hR _ _ _ _ _ _ (h2.put (okO_dst hok) rv) hk2
 have no : ∀ {e : Env}, St w0 m0 N m ι e s a w → (putK e o.dst (.tup []) fun e => ih K e s) → R (a.put o.dst undef) w := by
  intro e h hk
  rw [putK_eq] at hk
  exact hR _ _ _ _ _ _ (h.put (okO_dst hok) (Rep.tupL (vs := []) (RepL.nil m ι))) hk
 unfold wpOp
 simp only [hi]
 unfold opsC at hk
 split at hk
 ·rename_i hg
  have : Region.wanted o (yielded ops a.tmps) = true := by simp [Region.wanted, hg]
  rw [if_pos this]
  exact .inl (go h hk)
 ·rename_i j want hg
  split at hk
  ·rename_i t ht
   split at hk
   ·rename_i b hb
    have hw := wanted_bool h hg ht hb
    have rb : Rep m ι (.bool b) (a.tmps.getD t undef) := hb ▸ h.env t
    cases want <;> cases b <;> simp only [csplit, setK_eq] at hk
    ·rw [if_pos (by rw [hw]; rfl)]
     exact .inl (go (h.say rb) hk)
    ·rw [if_neg (by rw [hw]; decide)]
     exact no (h.say rb) hk
    ·rw [if_neg (by rw [hw]; decide)]
     exact no (h.say rb) hk
    ·rw [if_pos (by rw [hw]; rfl)]
     exact .inl (go (h.say rb) hk)
   ·rename_i hb
    have hw := wanted_skip h hg ht hb
    rw [if_neg (by rw [hw]; decide)]
    exact no h hk
   ·exact hk.elim
  ·exact hk.elim
theorem free_more {ops : Array Oper} {listed : Array Bool} {d : List Nat} {i : Nat} (hd : ∀ j, j < ops.size → memB d j = true → listed.getD j true = true) (h : Region.free .any ops ((List.range ops.size).map (memB d)).toArray i = true) : Region.free .any ops listed i = true := by
 unfold Region.free at h ⊢
 split
 ·rename_i hn
  rw [hn] at h
  cases h
 ·rename_i oi hoi
  rw [hoi] at h
  simp only [List.all_eq_true, List.mem_range] at h ⊢
  intro j hj
  have := h j hj
  have hg : (((List.range ops.size).map (memB d)).toArray).getD j true = memB d j := by
   simp [Array.getD, hj]
  rw [hg] at this
  cases hl : listed.getD j true
  ·have : memB d j = false := by
    cases q : memB d j
    ·rfl
    ·rw [hd j hj q] at hl; cases hl
   simp only [this, Bool.or_false] at *
   assumption
  ·simp
theorem anyK_sound {ops : Array Oper} (hall : ∀ o ∈ ops.toList, okO P N o = true) (hany : anyOk ops = true) {K : Env → List O → Prop} {Q : Exit → Act → World → Prop} (hQ : ∀ e s m ι a w, St w0 m0 N m ι e s a w → K e s → Q .normal a w)
  (hp : ∀ c a w, ¬ Q (.panic c) a w) : ∀ (n : Nat) (listed : Array Bool) (done : List Nat), Lst ops listed done → ∀ (e : Env) (s : List O) (m : Mem) (ι : List Blk) (a : Act) (w : World), St w0 m0 N m ι e s a w → anyK P ops K n done e s → wpAny P .any ops Q n listed a w := by
 intro n
 have nil : ∀ {listed : Array Bool} {done : List Nat}, Lst ops listed done → rdyF done 0 (depT ops) = [] → Region.ready .any ops listed = [] := fun hl h0 => by
  rw [List.eq_nil_iff_forall_not_mem]
  intro j hj
  rw [ready_iff hl, h0] at hj
  cases hj
 induction n with
 | zero =>
  intro listed done hl e s m ι a w h hk
  replace hk : (match rdyF done 0 (depT ops) with | [] => K e s | _ :: _ => False) := hk
  split at hk
  ·rename_i h0
   exact ⟨nil hl h0, hQ _ _ _ _ _ _ h hk⟩
  ·exact hk.elim
 | succ n ih =>
  intro listed done hl e s m ι a w h hk
  replace hk : (match rdyF done 0 (depT ops) with
   | [] => K e s
   | i :: rs => match pickQ ops.toList (i :: rs) with
    | some j => anyS P ops K (anyK P ops K n) done e s j
    | none => allB (anyS P ops K (anyK P ops K n) done e s) (i :: rs)) := hk
  have step : ∀ {j : Nat} {o : Oper}, ops[j]? = some o → anyS P ops K (anyK P ops K n) done e s j → wpOp P ops Q j (wpAny P .any ops Q n (listed.setIfInBounds j true)) a w := by
   intro j o ho hs
   unfold anyS at hs
   rw [at?_eq, Array.getElem?_toList, ho] at hs
   simp only [litK_eq] at hs
   refine opsC_sound ho (hall o (by rw [Array.mem_toList_iff]; exact Array.mem_of_getElem? ho)) (fun e s m ι a w h hk => ?_) h hs
   exact ih _ _ (hl.step (Array.getElem?_eq_some_iff.1 ho).1) _ _ _ _ _ _ h hk
  split at hk
  ·rename_i h0
   have h1 := nil hl h0
   exact ⟨fun _ => hQ _ _ _ _ _ _ h hk, fun i hi => by rw [h1] at hi; cases hi⟩
  ·rename_i i0 rs hrs
   have hne : Region.ready .any ops listed ≠ [] := fun q => by
    have : i0 ∈ Region.ready .any ops listed := by rw [ready_iff hl, hrs]; exact List.mem_cons_self
    rw [q] at this
    cases this
   split at hk
   ·rename_i j hj
    obtain ⟨hm, o, ho, hq⟩ := pickQ_spec hj
    rw [← hrs, ← ready_iff hl] at hm
    have hm2 := (mem_ready.1 hm).2
    have ho' : ops[j]? = some o := by simpa using ho
    have hlt : j < ops.size := (Array.getElem?_eq_some_iff.1 ho').1
    unfold anyOk at hany
    simp only [Bool.and_eq_true, List.all_eq_true, List.mem_range] at hany
    have hfr := hany.2 j hlt
    rw [at?_eq, ho] at hfr
    simp only [hq, Bool.not_true, Bool.false_or] at hfr
    have hok := hall o (by rw [Array.mem_toList_iff]; exact Array.mem_of_getElem? ho')
    have hdone : ∀ k, k < ops.size → memB (depO o) k = true → listed.getD k true = true := fun k hk hb => by
     obtain ⟨o2, ho2, h2⟩ := hm2
     rw [ho'] at ho2
     cases ho2
     rw [memB_iff] at hb
     obtain ⟨y, hy, rfl⟩ := List.mem_map.1 hb
     obtain ⟨hy1, hy2⟩ := List.mem_filter.1 hy
     rw [hl.getT hk, ← hl.get]
     exact h2 y (by simpa using hy1) hy2
    have hok2 := hok
    unfold okO at hok2
    simp only [Bool.and_eq_true] at hok2
    obtain ⟨⟨_, hc2⟩, _⟩ := hok2
    unfold anyS at hk
    rw [at?_eq, ho] at hk
    simp only [litK_eq] at hk
    have fin : ∀ x : Operand, okX x = true → o.guard = none → (∀ a : Act, execOp a.eval o = Sem.pure (.value (a.eval x))) →
      (fV 4 (ev e x) fun v => fL fO s fun s' => putK e o.dst v fun e => anyK P ops K n (j :: done) e s') → wpAny P .any ops Q (n + 1) listed a w := by
     intro x hx hg hex hk
     rw [fV_eq, fL_eq fO_eq, putK_eq] at hk
     refine wpAny_take ho' hany.1 (free_more hdone hfr) (by simpa using hm) (fun c a w hq => absurd hq (hp c _ _)) (v := a.eval x) (.inl ⟨by simp [Region.wanted, hg], fun w => by rw [hex]; rfl⟩) ?_
     exact ih _ _ (hl.step hlt) _ _ _ _ _ _ (h.put (okO_dst hok) (h.at hx)) hk
    unfold qop at hq
    unfold opsC at hk
    split at hq
    ·rename_i x hop hg
     rw [hg] at hk
     simp only [opK, hop] at hk
     exact fin x (by rw [hop] at hc2; simpa [Op.operands] using hc2) hg (fun a => by unfold execOp; rw [hop]; rfl) hk
    ·rename_i x hop hg
     rw [hg] at hk
     simp only [opK, hop] at hk
     exact fin x (by rw [hop] at hc2; simpa [Op.operands] using hc2) hg (fun a => by unfold execOp; rw [hop]; rfl) hk
    ·cases hq
   ·rename_i hj
    refine ⟨fun q => absurd q hne, fun i hi => ?_⟩
    have hi2 := hi
    rw [ready_iff hl, hrs] at hi2
    obtain ⟨_, o, ho, _⟩ := mem_ready.1 hi
    exact step ho (allB_mem hk i hi2)
end
end Go.Proofs.YtcbknemdidehlaaGreatDoor.Ab
namespace Go.Proofs.YtcbknemdidehlaaGreatDoor.Ab
open Go.RowKit
set_option linter.unusedVariables false
set_option linter.unusedSimpArgs false
def bkI (g : List Nat) (L i : Nat) : Nat := match at? g i with | some j => j | none => L + (i - g.length)
def bkV : Nat → List Nat → Nat → V → V
 | 0, _, _, _ => .undef
 | _ + 1, g, L, .ptr id off => .ptr (bkI g L id) off
 | _ + 1, g, L, .eptr id i off => .eptr (bkI g L id) i off
 | _ + 1, g, L, .sl id off len => .sl (bkI g L id) off len
 | _ + 1, g, L, .map id => .map (bkI g L id)
 | n + 1, g, L, .fn f a b => .fn f (a.map (bkV n g L)) (b.map (bkV n g L))
 | n + 1, g, L, .iface t v => .iface t (bkV n g L v)
 | n + 1, g, L, .agg cs => .agg (cs.map (bkV n g L))
 | n + 1, g, L, .tup cs => .tup (cs.map (bkV n g L))
 | _ + 1, _, _, v => v
def O.bk (g : List Nat) (L : Nat) : O → O
 | .box w cs => .box w (cs.map (bkV 8 g L))
 | .map ck es => .map ck (es.map fun x => (x.1, bkV 8 g L x.2.1, bkV 8 g L x.2.2))
 | .it mid a b c => .it (bkI g L mid) a b c
 | o => o
def putL : List O → List Nat → List O → List O
 | S, [], _ => S
 | S, _ :: _, [] => S
 | S, j :: g, o :: T => putL (setAt S j o) g T
def frS (S : List O) (g : List Nat) (s' : List O) : List O := putL S g ((s'.take g.length).map (O.bk g S.length)) ++ (s'.drop g.length).map (O.bk g S.length)
theorem putL_len : ∀ (g : List Nat) (S T : List O), (putL S g T).length = S.length
 | [], S, T => by cases T <;> rfl
 | _ :: _, S, [] => rfl
 | j :: g, S, o :: T => by rw [putL, putL_len g, setAt_eq, List.length_set]
theorem putL_out : ∀ (g : List Nat) (S T : List O) (p : Nat), p ∉ g → (putL S g T)[p]? = S[p]?
 | [], S, T, p, _ => by cases T <;> rfl
 | _ :: _, S, [], p, _ => rfl
 | j :: g, S, o :: T, p, h => by
  rw [putL, putL_out g _ T p (fun q => h (List.mem_cons_of_mem _ q)), setAt_eq, List.getElem?_set_ne (fun q => h (by rw [q]; exact List.mem_cons_self))]
theorem pos?_mem : ∀ (g : List Nat) (p : Nat), pos? g p = none → p ∉ g
 | [], p, _, h => by cases h
 | a :: g, p, h, hm => by
  simp only [pos?] at h
  split at h
  ·cases h
  ·rename_i hb
   rcases List.mem_cons.1 hm with q | q
   ·subst q
    simp at hb
   ·cases hp : pos? g p with
    | none => exact pos?_mem g p hp q
    | some i => rw [hp] at h; cases h
theorem putL_in : ∀ (g : List Nat) (S T : List O) (i p : Nat) (o : O), nd g = true → g[i]? = some p → T[i]? = some o → p < S.length → (putL S g T)[p]? = some o
 | [], S, T, i, p, o, _, h, _, _ => by simp at h
 | _ :: _, S, [], i, p, o, _, _, h, _ => by simp at h
 | j :: g, S, t :: T, i, p, o, hn, hi, ht, hp => by
  simp only [nd, Bool.and_eq_true] at hn
  rw [putL]
  cases i with
  | zero =>
   simp at hi ht
   subst hi; subst ht
   rw [putL_out g _ T j (pos?_mem g j (by cases q : pos? g j with | none => rfl | some _ => rw [q] at hn; simp at hn)), setAt_eq, List.getElem?_set, if_pos rfl, if_pos hp]
  | succ i => exact putL_in g _ T i p o hn.2 (by simpa using hi) (by simpa using ht) (by rw [setAt_eq, List.length_set]; exact hp)
theorem Rep.bk {m : Mem} {ι κ : List Blk} {g : List Nat} {L : Nat} (hk : ∀ (i : Nat) β, ι[i]? = some β → κ[bkI g L i]? = some β) :
  ∀ (n : Nat) (v : V) (x : Value), Rep m ι v x → Rep m κ (bkV n g L v) x
 | 0, _, x, _ => .undef _ _
 | n + 1, v, x, hr => by
  have ih := Rep.bk (m := m) hk n
  cases hr with
  | undef => exact .undef _ _
  | int _ k z hz => exact .int _ k z hz
  | bool _ b => exact .bool _ b
  | str _ b hb => exact .str _ b hb
  | nilFn => exact .nilFn _
  | nilPtr => exact .nilPtr _
  | nilMap => exact .nilMap _
  | nilI => exact .nilI _
  | fn _ f p q vp vq hp hq rp rq =>
   refine .fn _ f _ _ vp vq (by simp [hp]) (by simp [hq]) ?_ ?_
   ·intro i c y hc hy
    simp only [List.getElem?_map, Option.map_eq_some_iff] at hc
    obtain ⟨c', hc', rfl⟩ := hc
    exact ih c' y (rp i c' y hc' hy)
   ·intro i c y hc hy
    simp only [List.getElem?_map, Option.map_eq_some_iff] at hc
    obtain ⟨c', hc', rfl⟩ := hc
    exact ih c' y (rq i c' y hc' hy)
  | iface _ t v x hv => exact .iface _ t _ x (ih v x hv)
  | ptr _ id off β hβ => exact .ptr _ _ off β (hk id β hβ)
  | eptr _ id i off β hβ => exact .eptr _ _ i off β (hk id β hβ)
  | elem _ cs b o gg hm hc => exact .elem _ cs b o gg hm hc
  | row _ x els p cap sz b o gg hx hc hl hs ha hm hr => exact .row _ x els p cap sz b o gg hx hc hl hs ha hm hr
  | sl _ id off len p cap β hβ hl hc hn hb ha => exact .sl _ _ off len p cap β (hk id β hβ) hl hc hn hb ha
  | map _ id β hβ => exact .map _ _ β (hk id β hβ)
  | agg _ cs vs hl hr =>
   refine Rep.aggL ⟨by simp [hl], fun i c y hc hy => ?_⟩
   simp only [List.getElem?_map, Option.map_eq_some_iff] at hc
   obtain ⟨c', hc', rfl⟩ := hc
   exact ih c' y (hr i c' y hc' hy)
  | tup _ cs vs hl hr =>
   refine Rep.tupL ⟨by simp [hl], fun i c y hc hy => ?_⟩
   simp only [List.getElem?_map, Option.map_eq_some_iff] at hc
   obtain ⟨c', hc', rfl⟩ := hc
   exact ih c' y (hr i c' y hc' hy)
theorem Ob.bk {m : Mem} {ι κ : List Blk} {w : World} {β : Blk} {g : List Nat} {L : Nat} (hk : ∀ (i : Nat) β, ι[i]? = some β → κ[bkI g L i]? = some β) {o : O} (h : Ob m ι w β o) : Ob m κ w β (o.bk g L) := by
 cases o with
 | gone => exact trivial
 | box wr cs =>
  obtain ⟨vs, et, fr, h1, h2, h3, h4⟩ := h
  refine ⟨vs, et, fr, h1, ⟨by simp [h2.1], fun k c y hc hy => ?_⟩, h3, h4⟩
  simp only [List.getElem?_map, Option.map_eq_some_iff] at hc
  obtain ⟨c', hc', rfl⟩ := hc
  exact Rep.bk hk 8 _ _ (h2.2 k c' y hc' hy)
 | arr wr sz els => exact h
 | map ck es =>
  obtain ⟨ms, h1, h2, h3⟩ := h
  refine ⟨ms, h1, ⟨by simp [h2.1], fun k x y hx hy => ?_⟩, by simpa using h3⟩
  simp only [List.getElem?_map, Option.map_eq_some_iff] at hx
  obtain ⟨x', hx', rfl⟩ := hx
  have := h2.2 k x' y hx' hy
  exact ⟨this.1, Rep.bk hk 8 _ _ this.2.1, Rep.bk hk 8 _ _ this.2.2⟩
 | it a b c d =>
  obtain ⟨βm, h1, h2, h3⟩ := h
  exact ⟨βm, h1, hk a βm h2, h3⟩
 | raw x => exact h
theorem O.bk_gone {g : List Nat} {L : Nat} {o : O} : o.bk g L ≠ .gone ↔ o ≠ .gone := by cases o <;> simp [O.bk]
theorem Ob.still {m m' : Mem} {ι κ : List Blk} {w w' : World} {β : Blk} {o : O} (h : Ob m ι w β o) (hb : w'.heap[β.blk]? = w.heap[β.blk]?) (hm : m.le m') (hn : ∀ k, m β.blk k = none → m' β.blk k = none) (he : ∀ (i : Nat) γ, ι[i]? = some γ → κ[i]? = some γ) : Ob m' κ w' β o := by
 cases o with
 | gone => exact trivial
 | box wr cs =>
  obtain ⟨vs, et, fr, h1, h2, h3, h4⟩ := h
  exact ⟨vs, et, fr, hb.trans h1, (h2.mono hm).ext he, h3, fun q k => hn k (h4 q k)⟩
 | arr wr sz els =>
  obtain ⟨vs, et, fr, h1, h2, h3, h4, h5, h6, h7, h8, h9, h10, h11⟩ := h
  refine ⟨vs, et, fr, h1, hb.trans h2, h3, h4, h5, h6, h7, fun i j el c q1 q2 => ?_, h9, fun k q => hn k (h10 k q), fun q k => hn k (h11 q k)⟩
  obtain ⟨x, q3, q4⟩ := h8 i j el c q1 q2
  exact ⟨x, q3, q4.mono hm⟩
 | map ck es => exact h.map_move hb fun v x r => (r.mono hm).ext he
 | it a b c d => exact h.it_move hb he
 | raw x => exact ⟨hb.trans h.1, h.2⟩
section
variable {P : Program} {m : Mem} {ι : List Blk} {w : World} {S : List O} {g : List Nat}
theorem Mo.lend (h : Mo ⟨w, lent S ι, ι⟩ m m ι S w) (hg : nd g = true) : Mo ⟨w, lent (selO S g) (g.map fun i => (ι[i]?).getD ⟨0, 0, 0, 0⟩), g.map fun i => (ι[i]?).getD ⟨0, 0, 0, 0⟩⟩ m m (g.map fun i => (ι[i]?).getD ⟨0, 0, 0, 0⟩) (selO S g) w := by
 have st : St ⟨w, lent S ι, []⟩ m 0 m ι [] S { tmps := #[], defers := [] } w :=
  {defers := rfl
   size := rfl
   env := fun t => .undef _ _
   mle := h.mle
   glo := h.glo
   mok := h.mok
   fresh := h.fresh
   below := ⟨h.below.os, h.below.tape, h.below.output, h.below.size, h.below.block⟩
   len := h.len
   obj := h.obj
   own := h.own
   inj := h.inj
   pin := fun i β hi => by simp at hi }
 exact (st.select [] g hg rfl).mo
theorem fr_get {s' : List O} (hg : nd g = true) (hlt : ∀ p ∈ g, p < S.length) (hn : g.length ≤ s'.length) {p : Nat} {o : O} (h : (frS S g s')[p]? = some o) :
  (∃ i o', s'[i]? = some o' ∧ o = o'.bk g S.length ∧ p = bkI g S.length i) ∨ (p ∉ g ∧ p < S.length ∧ S[p]? = some o) := by
 unfold frS at h
 rcases Nat.lt_or_ge p S.length with q | q
 ·rw [List.getElem?_append_left (by rw [putL_len]; exact q)] at h
  by_cases hm : p ∈ g
  ·obtain ⟨i, hi⟩ := List.mem_iff_getElem?.1 hm
   have hil := (List.getElem?_eq_some_iff.1 hi).1
   have hs : s'[i]? = some s'[i] := List.getElem?_eq_getElem (by omega)
   rw [putL_in g S _ i p (s'[i].bk g S.length) hg hi (by rw [List.getElem?_map, List.getElem?_take, if_pos hil, hs]; rfl) q] at h
   exact .inl ⟨i, _, hs, (Option.some.inj h).symm, by rw [bkI, at?_eq, hi]⟩
  ·rw [putL_out g S _ p hm] at h
   exact .inr ⟨hm, q, h⟩
 ·rw [List.getElem?_append_right (by rw [putL_len]; exact q), putL_len, List.getElem?_map, Option.map_eq_some_iff] at h
  obtain ⟨o', ho', rfl⟩ := h
  rw [List.getElem?_drop] at ho'
  refine .inl ⟨_, _, ho', rfl, ?_⟩
  rw [bkI, at?_eq, List.getElem?_eq_none (by omega)]
  show p = S.length + (g.length + (p - S.length) - g.length)
  omega
theorem Mo.framed (h : Mo ⟨w, lent S ι, ι⟩ m m ι S w) (hg : nd g = true) (hlt : ∀ p ∈ g, p < S.length) {m' : Mem} {κ' : List Blk} {s' : List O} {w' : World}
  (k : Mo ⟨w, lent (selO S g) (g.map fun i => (ι[i]?).getD ⟨0, 0, 0, 0⟩), g.map fun i => (ι[i]?).getD ⟨0, 0, 0, 0⟩⟩ m m' κ' s' w') :
  Mo ⟨w, lent S ι, ι⟩ m m' (ι ++ κ'.drop g.length) (frS S g s') w' ∧ ∀ (n : Nat) v x, Rep m' κ' v x → Rep m' (ι ++ κ'.drop g.length) (bkV n g S.length v) x := by
 generalize hκ : (g.map fun i => (ι[i]?).getD ⟨0, 0, 0, 0⟩) = κ at k
 have hget : ∀ (i p : Nat), g[i]? = some p → κ[i]? = ι[p]? := by
  intro i p hi
  have hp := hlt p (List.mem_of_getElem? hi)
  rw [← h.len] at hp
  rw [← hκ, List.getElem?_map, hi, Option.map_some, List.getElem?_eq_getElem hp]
  rfl
 have hkl : κ.length = g.length := by rw [← hκ, List.length_map]
 have hn : g.length ≤ κ'.length := by
  rcases Nat.eq_zero_or_pos g.length with q | q
  ·omega
  ·have hx : κ[g.length - 1]? = some (κ[g.length - 1]'(by omega)) := List.getElem?_eq_getElem (by omega)
   have := (List.getElem?_eq_some_iff.1 (k.pin _ _ hx)).1
   omega
 have hn' : g.length ≤ s'.length := by rw [← k.len]; exact hn
 have idx : ∀ (i : Nat) β, κ'[i]? = some β → (ι ++ κ'.drop g.length)[bkI g S.length i]? = some β := by
  intro i β hi
  unfold bkI
  rw [at?_eq]
  cases hgi : g[i]? with
  | some p =>
   have hil := (List.getElem?_eq_some_iff.1 hgi).1
   have hp := hlt p (List.mem_of_getElem? hgi)
   have hx : κ[i]? = some (κ[i]'(by omega)) := List.getElem?_eq_getElem (by omega)
   have e1 := k.pin i _ hx
   rw [hi] at e1
   rw [List.getElem?_append_left (by rw [h.len]; exact hp), ← hget i p hgi, hx]
   exact e1.symm
  | none =>
   have hil := List.getElem?_eq_none_iff.1 hgi
   show (ι ++ κ'.drop g.length)[S.length + (i - g.length)]? = some β
   rw [List.getElem?_append_right (by rw [h.len]; omega), List.getElem?_drop, h.len, show g.length + (S.length + (i - g.length) - S.length) = i by omega]
   exact hi
 have at_ : ∀ {p : Nat} {o : O} {β : Blk}, (frS S g s')[p]? = some o → (ι ++ κ'.drop g.length)[p]? = some β → (∃ i o', s'[i]? = some o' ∧ κ'[i]? = some β ∧ o = o'.bk g S.length ∧ p = bkI g S.length i) ∨ (p ∉ g ∧ S[p]? = some o ∧ ι[p]? = some β) := by
  intro p o β ho hβ
  rcases fr_get hg hlt hn' ho with ⟨i, o', hi, rfl, rfl⟩ | ⟨q1, q2, q3⟩
  ·have hil : i < κ'.length := by rw [k.len]; exact (List.getElem?_eq_some_iff.1 hi).1
   have e1 := idx i _ (List.getElem?_eq_getElem hil)
   rw [hβ] at e1
   exact .inl ⟨i, o', hi, by rw [List.getElem?_eq_getElem hil, ← e1], rfl, rfl⟩
  ·rw [List.getElem?_append_left (by rw [h.len]; exact q2)] at hβ
   exact .inr ⟨q1, q3, hβ⟩
 have sub : ∀ b, lent (selO S g) κ b → lent S ι b := by
  rintro b ⟨i, o, β, ho, hβ, hgo, rfl⟩
  simp only [selO, List.getElem?_map, Option.map_eq_some_iff] at ho
  obtain ⟨p, hp, rfl⟩ := ho
  have hpl := hlt p (List.mem_of_getElem? hp)
  rw [hget i p hp] at hβ
  refine ⟨p, S[p], β, List.getElem?_eq_getElem hpl, hβ, fun q => hgo ?_, rfl⟩
  rw [at?_eq, List.getElem?_eq_getElem hpl, q]
  rfl
 have far : ∀ {p : Nat} {o : O} {β : Blk}, p ∉ g → S[p]? = some o → ι[p]? = some β → o ≠ .gone → ¬ lent (selO S g) κ β.blk ∧ β.blk < w.heap.size := by
  intro p o β hp ho hβ hgo
  refine ⟨?_, (h.own p o β ho hβ hgo).2⟩
  rintro ⟨i, o2, γ, ho2, hγ, hgo2, e⟩
  simp only [selO, List.getElem?_map, Option.map_eq_some_iff] at ho2
  obtain ⟨p2, hp2, rfl⟩ := ho2
  have hpl := hlt p2 (List.mem_of_getElem? hp2)
  rw [hget i p2 hp2] at hγ
  have hgo3 : S[p2] ≠ .gone := fun q => hgo2 (by rw [at?_eq, List.getElem?_eq_getElem hpl, q]; rfl)
  exact h.inj p2 p S[p2] o γ β (List.getElem?_eq_getElem hpl) ho hγ hβ hgo3 hgo (fun q => hp (q ▸ List.mem_of_getElem? hp2)) e
 have same : ∀ {p : Nat} {o : O} {β : Blk}, p ∉ g → S[p]? = some o → ι[p]? = some β → o ≠ .gone → w'.heap[β.blk]? = w.heap[β.blk]? ∧ ∀ j, m β.blk j = none → m' β.blk j = none := by
  intro p o β hp ho hβ hgo
  obtain ⟨f1, f2⟩ := far hp ho hβ hgo
  refine ⟨k.below.block _ f2 f1, fun j hj => ?_⟩
  cases q : m' β.blk j with
  | none => rfl
  | some v =>
   rcases k.fresh _ _ _ q hj with z | z
   ·exact absurd f2 (Nat.not_lt.2 z)
   ·exact absurd z f1
 refine ⟨{ mle := k.mle
           glo := k.glo
           mok := k.mok
           fresh := fun b o x hx hx0 => (k.fresh b o x hx hx0).imp id (sub b)
           below := ⟨k.below.os, k.below.tape, k.below.output, k.below.size, fun b hb hx => k.below.block b hb fun q => hx (sub b q)⟩
           len := ?_
           obj := fun p o β ho hβ => ?_
           own := fun p o β ho hβ hgo => ?_
           inj := fun p q o o2 β γ ho ho2 hβ hγ hgo hgo2 hpq => ?_
           pin := fun i β hi => ?_ }, fun n v x r => Rep.bk idx n v x r⟩
 ·rw [List.length_append, List.length_drop, frS, List.length_append, putL_len, List.length_map, List.length_drop, h.len, k.len]
 ·rcases at_ ho hβ with ⟨i, o', hi, hβ', rfl, rfl⟩ | ⟨q1, q2, q3⟩
  ·exact (k.obj i o' β hi hβ').bk idx
  ·by_cases hgo : o = .gone
   ·subst hgo; exact trivial
   ·obtain ⟨s1, s2⟩ := same q1 q2 q3 hgo
    exact (h.obj p o β q2 q3).still s1 k.mle s2 fun i γ hi => by rw [List.getElem?_append_left (List.getElem?_eq_some_iff.1 hi).1]; exact hi
 ·rcases at_ ho hβ with ⟨i, o', hi, hβ', rfl, rfl⟩ | ⟨q1, q2, q3⟩
  ·obtain ⟨z1, z2⟩ := k.own i o' β hi hβ' (O.bk_gone.1 hgo)
   exact ⟨z1.imp id (sub _), z2⟩
  ·have z := (h.own p o β q2 q3 hgo).2
   exact ⟨.inr ⟨p, o, β, q2, q3, hgo, rfl⟩, Nat.lt_of_lt_of_le z k.below.size⟩
 ·rcases at_ ho hβ with ⟨i, o', hi, hβ', rfl, rfl⟩ | ⟨q1, q2, q3⟩
  ·rcases at_ ho2 hγ with ⟨j, o2', hj, hγ', rfl, rfl⟩ | ⟨r1, r2, r3⟩
   ·exact k.inj i j o' o2' β γ hi hj hβ' hγ' (O.bk_gone.1 hgo) (O.bk_gone.1 hgo2) fun z => hpq (by rw [z])
   ·obtain ⟨f1, f2⟩ := far r1 r2 r3 hgo2
    intro e
    rcases (k.own i o' β hi hβ' (O.bk_gone.1 hgo)).1 with z | z
    ·rw [e] at z; exact absurd f2 (Nat.not_lt.2 z)
    ·rw [e] at z; exact f1 z
  ·rcases at_ ho2 hγ with ⟨j, o2', hj, hγ', rfl, rfl⟩ | ⟨r1, r2, r3⟩
   ·obtain ⟨f1, f2⟩ := far q1 q2 q3 hgo
    intro e
    rcases (k.own j o2' γ hj hγ' (O.bk_gone.1 hgo2)).1 with z | z
    ·rw [← e] at z; exact absurd f2 (Nat.not_lt.2 z)
    ·rw [← e] at z; exact f1 z
   ·exact h.inj p q o o2 β γ q2 r2 q3 r3 hgo hgo2 hpq
 ·show (ι ++ κ'.drop g.length)[i]? = some β
  rw [List.getElem?_append_left (List.getElem?_eq_some_iff.1 hi).1]
  exact hi
theorem RetQ.frame {f : FuncId} {args argsS : List V} {s : List O} {Q : V → List O → Prop} (h : RetQ P f args s Q) (S : List O) (g : List Nat) (hg : nd g = true) (hlt : ∀ p ∈ g, p < S.length) (hs : selO S g = s) (ha : argsS.map (ren 8 g) = args) :
  RetQ P f argsS S fun r S' => ∃ r0 s', Q r0 s' ∧ r = bkV 9 g S.length r0 ∧ S' = frS S g s' := by
 subst hs
 intro m w vs ι hm hr
 have hargs : RepL m (g.map fun i => (ι[i]?).getD ⟨0, 0, 0, 0⟩) args vs := by
  rw [← ha]
  refine ⟨by simp [hr.1], fun i x y hx hy => ?_⟩
  simp only [List.getElem?_map, Option.map_eq_some_iff] at hx
  obtain ⟨x', hx', rfl⟩ := hx
  exact Rep.renamed (fun j i β hj hi => by simp [hj, hi]) 8 x' y (hr.2 i x' y hx' hy)
 have hcall := h m w vs _ (hm.lend hg) hargs
 unfold CallsX at hcall ⊢
 have fin : ∀ {v : Value} {w' : World}, (∃ (m' : Mem) (ι' : List Blk) (r : V) (s' : List O), Q r s' ∧ Mo ⟨w, lent (selO S g) (g.map fun i => (ι[i]?).getD ⟨0, 0, 0, 0⟩), g.map fun i => (ι[i]?).getD ⟨0, 0, 0, 0⟩⟩ m m' ι' s' w' ∧ Rep m' ι' r v) →
   ∃ (m' : Mem) (ι' : List Blk) (r : V) (S' : List O), (∃ r0 s', Q r0 s' ∧ r = bkV 9 g S.length r0 ∧ S' = frS S g s') ∧ Mo ⟨w, lent S ι, ι⟩ m m' ι' S' w' ∧ Rep m' ι' r v := by
  rintro v w' ⟨m', ι', r, s', hq, hmo, rv⟩
  obtain ⟨k1, k2⟩ := hm.framed hg hlt hmo
  exact ⟨m', _, _, _, ⟨r, s', hq, rfl, rfl⟩, k1, k2 9 r v rv⟩
 generalize (callFunc f vs.toArray).run P w = q at hcall
 cases q with
 | ok nx w1 =>
  cases nx <;> first
   | exact fin hcall
   | exact hcall.mono fun e w'' ⟨v, he, h2⟩ => ⟨v, he, fin h2⟩
   | exact hcall.elim
 | halt x w1 => exact hcall.elim
theorem RetL.frame {f : FuncId} {args argsS : List V} {s s' : List O} {r : V} (h : RetL P f args s r s') (S : List O) (g : List Nat) (hg : nd g = true) (hlt : ∀ p ∈ g, p < S.length) (hs : selO S g = s) (ha : argsS.map (ren 8 g) = args) :
  RetL P f argsS S (bkV 9 g S.length r) (frS S g s') := by
 subst hs
 intro m w vs ι hm hr
 have hargs : RepL m (g.map fun i => (ι[i]?).getD ⟨0, 0, 0, 0⟩) args vs := by
  rw [← ha]
  refine ⟨by simp [hr.1], fun i x y hx hy => ?_⟩
  simp only [List.getElem?_map, Option.map_eq_some_iff] at hx
  obtain ⟨x', hx', rfl⟩ := hx
  exact Rep.renamed (fun j i β hj hi => by simp [hj, hi]) 8 x' y (hr.2 i x' y hx' hy)
 have hcall := h m w vs _ (hm.lend hg) hargs
 unfold CallsX at hcall ⊢
 have fin : ∀ {v : Value} {w' : World}, (∃ (m' : Mem) (ι' : List Blk), Mo ⟨w, lent (selO S g) (g.map fun i => (ι[i]?).getD ⟨0, 0, 0, 0⟩), g.map fun i => (ι[i]?).getD ⟨0, 0, 0, 0⟩⟩ m m' ι' s' w' ∧ Rep m' ι' r v) →
   ∃ (m' : Mem) (ι' : List Blk), Mo ⟨w, lent S ι, ι⟩ m m' ι' (frS S g s') w' ∧ Rep m' ι' (bkV 9 g S.length r) v := by
  rintro v w' ⟨m', ι', hmo, rv⟩
  obtain ⟨k1, k2⟩ := hm.framed hg hlt hmo
  exact ⟨m', _, k1, k2 9 r v rv⟩
 generalize (callFunc f vs.toArray).run P w = q at hcall
 cases q with
 | ok nx w1 =>
  cases nx <;> first
   | exact fin hcall
   | exact hcall.mono fun e w'' ⟨v, he, h2⟩ => ⟨v, he, fin h2⟩
   | exact hcall.elim
 | halt x w1 => exact hcall.elim
end
end Go.Proofs.YtcbknemdidehlaaGreatDoor.Ab
namespace Go.Proofs.YtcbknemdidehlaaGreatDoor.Ab
open Go.RowKit
set_option linter.unusedVariables false
set_option linter.unusedSimpArgs false
section
variable {P : Program} {e : Env} {s : List O} {o : Oper} {K : V → List O → Prop}
theorem binK_self {op : BinOp} {t : TypeId} {x y : V} {K : V → Prop} (h : binK P op t x y K) : binK P op t x y fun v => K v ∧ binK P op t x y fun u => u = v := by
 unfold binK at h ⊢
 split at h
 ·split at h
  ·exact ⟨h.1, h.2, h.1, (by first | trivial | exact rfl)⟩
  ·exact ⟨h.1, h.2, h.1, (by first | trivial | exact rfl)⟩
  ·split at h
   ·exact h.elim
   ·rename_i hkj
    simp only [hkj]
    split at h
    ·exact ⟨h, (by first | trivial | exact rfl)⟩
    ·exact ⟨h, (by first | trivial | exact rfl)⟩
    ·exact ⟨h, (by first | trivial | exact rfl)⟩
    ·exact ⟨h.1, h.2, h.1, (by first | trivial | exact rfl)⟩
    ·exact ⟨h.1, h.2, h.1, (by first | trivial | exact rfl)⟩
    ·split at h
     ·rename_i r hr
      simp only [hr]
      exact ⟨h, (by first | trivial | exact rfl)⟩
     ·rename_i hr
      split at h
      ·rename_i c hc
       simp only [hr, hc]
       exact ⟨h, (by first | trivial | exact rfl)⟩
      ·exact h.elim
 ·split at h
  ·exact ⟨h.1, h.2, h.1, (by first | trivial | exact rfl)⟩
  ·split at h
   ·rename_i c hc
    simp only [hc]
    exact ⟨h, (by first | trivial | exact rfl)⟩
   ·exact h.elim
 ·split at h
  ·rename_i hu
   split at h
   ·rename_i c hc
    simp only [hu, hc]
    exact ⟨h, (by first | trivial | exact rfl)⟩
   ·exact h.elim
  ·exact h.elim
 ·split at h
  ·rename_i fs hu
   split at h
   ·rename_i c hc
    split at h
    ·rename_i r hr
     simp only [hu, hc, hr]
     exact ⟨h, (by first | trivial | exact rfl)⟩
    ·exact h.elim
   ·exact h.elim
  ·exact h.elim
 ·split at h
  ·rename_i d hu
   split at h
   ·rename_i c hc
    split at h
    ·rename_i r hr
     simp only [hu, hc, hr]
     exact ⟨h, (by first | trivial | exact rfl)⟩
    ·exact h.elim
   ·exact h.elim
  ·exact h.elim
def drawable : Op → Bool
 | .move _ => true
 | .assign _ => true
 | .pick _ _ _ => true
 | .alloc _ => true
 | .box _ _ => true
 | .build _ _ => true
 | .buildSlice _ _ _ => true
 | .load _ _ => true
 | .store _ _ _ => true
 | .nilCheck _ => true
 | .binOp _ _ _ _ _ => true
 | .unOp _ _ _ => true
 | .convert _ _ _ => true
 | .makeFunc _ _ _ => true
 | .slice _ _ _ _ none => true
 | .fieldAddr _ _ _ => true
 | .field _ _ _ => true
 | .indexAddr _ _ _ => true
 | .index _ _ _ => true
 | .extract _ _ => true
 | .call { callee := .value _, .. } => true
 | .call { callee := .builtin .len, .. } => true
 | .call { callee := .builtin .min, .. } => true
 | .call { callee := .builtin .max, .. } => true
 | .call { callee := .builtin .delete, .. } => true
 | .call { callee := .builtin .append, .. } => true
 | .lookup _ _ _ _ => true
 | .mapUpdate _ _ _ _ => true
 | .mapEntry _ _ _ => true
 | .entryStore _ _ _ _ => true
 | _ => false
theorem unK_self {op : UnOp} {x : V} {K : V → Prop} (h : unK op x K) : unK op x fun v => K v ∧ unK op x fun u => u = v := by
 unfold unK at h ⊢
 split at h
 ·exact ⟨h, (by first | trivial | exact rfl)⟩
 ·exact ⟨h, (by first | trivial | exact rfl)⟩
 ·exact h.elim
theorem csplit_self {b : Bool} {v w : V} {K : V → List O → Prop} (h : csplit b (K v s) (K w s)) : csplit b (K v s ∧ csplit b (v = v ∧ s = s) (w = v ∧ s = s)) (K w s ∧ csplit b (v = w ∧ s = s) (w = w ∧ s = s)) := by
 cases b
 ·exact ⟨h, rfl, rfl⟩
 ·exact ⟨h, rfl, rfl⟩
def isLow (x : Option V) (l : Int) : Prop := (x = none ∧ l = 0) ∨ ∃ k, x = some (.int k l)
def isHigh (n : Int) (x : Option V) (l : Int) : Prop := (x = none ∧ l = n) ∨ ∃ k, x = some (.int k l)
theorem low_iff {x : Option V} {C : Int → Prop} : lowK x C ↔ ∃ l, isLow x l ∧ C l := by
 unfold lowK isLow
 constructor
 ·intro h
  split at h
  ·exact ⟨0, .inl ⟨rfl, rfl⟩, h⟩
  ·exact ⟨_, .inr ⟨_, rfl⟩, h⟩
  ·exact h.elim
 ·rintro ⟨l, ⟨rfl, rfl⟩ | ⟨k, rfl⟩, h⟩
  ·exact h
  ·exact h
theorem high_iff {n : Int} {x : Option V} {C : Int → Prop} : highK n x C ↔ ∃ l, isHigh n x l ∧ C l := by
 unfold highK isHigh
 constructor
 ·intro h
  split at h
  ·exact ⟨n, .inl ⟨rfl, rfl⟩, h⟩
  ·exact ⟨_, .inr ⟨_, rfl⟩, h⟩
  ·exact h.elim
 ·rintro ⟨l, ⟨rfl, rfl⟩ | ⟨k, rfl⟩, h⟩
  ·exact h
  ·exact h
theorem sliceK_self {t : TypeId} {x : V} {lo hi : Option V} {K : V → Prop} (h : sliceK P t x lo hi none s K) : sliceK P t x lo hi none s fun v => K v ∧ sliceK P t x lo hi none s fun u => u = v := by
 unfold sliceK at h ⊢
 simp only [low_iff, high_iff] at h ⊢
 split at h
 ·obtain ⟨l, hl, r, hr, a, b⟩ := h
  exact ⟨l, hl, r, hr, a, b, l, hl, r, hr, a, rfl⟩
 ·split at h
  ·rename_i z hz
   simp only [hz]
   obtain ⟨l, hl, r, hr, a, b, c⟩ := h
   exact ⟨l, hl, r, hr, a, b, c, l, hl, r, hr, a, b, rfl⟩
  ·exact h.elim
 ·split at h
  ·rename_i hs hz
   simp only [hs, hz]
   split at h
   ·rename_i hq
    simp only [hq]
    obtain ⟨l, hl, r, hr, a, b⟩ := h
    exact ⟨l, hl, r, hr, a, b, l, hl, r, hr, a, rfl⟩
   ·exact h.elim
  ·exact h.elim
 ·exact h.elim
theorem lenK_self {t : TypeId} {x : V} {K : V → Prop} (h : lenK P t x s K) : lenK P t x s fun v => K v ∧ lenK P t x s fun u => u = v := by
 unfold lenK at h ⊢
 split at h
 ·split at h
  ·exact fun q => ⟨h q, fun _ => rfl⟩
  ·exact h.elim
 ·split at h
  ·exact fun q => ⟨h q, fun _ => rfl⟩
  ·exact fun q => ⟨h q, fun _ => rfl⟩
  ·exact h.elim
 ·exact ⟨h.1, h.2, h.1, rfl⟩
 ·split at h
  ·exact ⟨h, rfl⟩
  ·split at h
   ·rename_i h2; simp only [h2]; exact fun q => ⟨h q, fun _ => (by first | trivial | exact rfl)⟩
   ·exact h.elim
  ·exact h.elim
 ·exact h.elim
theorem len_self {ts : Array TypeId} {l : List V} (h : builtinK P .len ts l s K) : builtinK P .len ts l s fun v s' => K v s' ∧ builtinK P .len ts l s fun u t => u = v ∧ t = s' := by
 match l, h with
 | [x], h =>
  simp only [builtinK] at h ⊢
  split at h
  ·rename_i t ht
   have := lenK_self h
   simpa [ht] using this
  ·exact h.elim
 | [], h => exact h.elim
 | _ :: _ :: _, h => exact h.elim
theorem max_self {ts : Array TypeId} {l : List V} (h : builtinK P .max ts l s K) : builtinK P .max ts l s fun v s' => K v s' ∧ builtinK P .max ts l s fun u t => u = v ∧ t = s' := by
 unfold builtinK at h ⊢
 split at h <;> first
  | exact h.elim
  | (rename_i hb; cases hb; done)
  | (split at h
     ·rename_i h1; simp only [h1]; exact ⟨h, (by first | trivial | exact rfl), (by first | trivial | exact rfl)⟩
     ·exact h.elim)
theorem min_self {ts : Array TypeId} {l : List V} (h : builtinK P .min ts l s K) : builtinK P .min ts l s fun v s' => K v s' ∧ builtinK P .min ts l s fun u t => u = v ∧ t = s' := by
 unfold builtinK at h ⊢
 split at h <;> first
  | exact h.elim
  | (rename_i hb; cases hb; done)
  | (split at h
     ·rename_i h1; simp only [h1]; exact ⟨h, (by first | trivial | exact rfl), (by first | trivial | exact rfl)⟩
     ·exact h.elim)
theorem del_self {ts : Array TypeId} {l : List V} (h : builtinK P .delete ts l s K) : builtinK P .delete ts l s fun v s' => K v s' ∧ builtinK P .delete ts l s fun u t => u = v ∧ t = s' := by
 unfold builtinK at h ⊢
 split at h <;> first
  | exact h.elim
  | (rename_i hb; cases hb; done)
  | (split at h
     ·rename_i h1; (try simp only [h1])
      split at h
      ·rename_i h2; (try simp only [h2])
       split at h
       ·rename_i h3 h4; (try simp only [h3, h4])
        refine findK_mono (fun r hr => ?_) _ _ (findK_self _ _ h)
        obtain ⟨h5, h6⟩ := hr
        cases r with
        | none => exact ⟨h5, findK_mono (fun q hq => by subst hq; exact ⟨(by first | trivial | exact rfl), (by first | trivial | exact rfl)⟩) _ _ h6⟩
        | some r => exact ⟨h5, findK_mono (fun q hq => by subst hq; exact ⟨(by first | trivial | exact rfl), (by first | trivial | exact rfl)⟩) _ _ h6⟩
       ·exact h.elim
      ·exact h.elim
     ·exact h.elim)
theorem appendG_self {i : TypeInfo} {d : V} {new : List (List V)} (h : appendG P i d new s K) : appendG P i d new s fun v s' => K v s' ∧ appendG P i d new s fun u t => u = v ∧ t = s' := by
 unfold appendG at h ⊢
 split at h
 ·cases hn : new.isEmpty with
  | true =>
   simp only [hn, csplit] at h ⊢
   exact ⟨h, (by first | trivial | exact rfl), (by first | trivial | exact rfl)⟩
  | false =>
   simp only [hn, csplit, litK_eq] at h ⊢
   exact ⟨h.1, h.2.1, h.2.2.1, h.2.2.2, h.1, h.2.1, h.2.2.1, (by first | trivial | exact rfl), (by first | trivial | exact rfl)⟩
 ·split at h
  ·rename_i h1; (try simp only [h1])
   split at h
   ·rename_i h2 h3; (try simp only [h2, h3])
    cases hn : new.isEmpty with
    | true =>
     simp only [hn, csplit] at h ⊢
     exact ⟨h, (by first | trivial | exact rfl), (by first | trivial | exact rfl)⟩
    | false =>
     simp only [hn, csplit, litK_eq] at h ⊢
     exact ⟨h.1, h.2.1, h.2.2.1, h.2.2.2.1, h.2.2.2.2, h.1, h.2.1, h.2.2.1, h.2.2.2.1, (by first | trivial | exact rfl), (by first | trivial | exact rfl)⟩
   ·exact h.elim
  ·exact h.elim
 ·exact h.elim
theorem appendK_self {t u : TypeId} {d y : V} (h : appendK P t u d y s K) : appendK P t u d y s fun v s' => K v s' ∧ appendK P t u d y s fun u t => u = v ∧ t = s' := by
 have key : ∀ {i : TypeInfo} {new : List (List V)}, (∀ K, appendK P t u d y s K = appendG P i d new s K) → appendK P t u d y s fun v s' => K v s' ∧ appendK P t u d y s fun u t => u = v ∧ t = s' := by
  intro i new hA
  rw [hA] at h
  simp only [hA]
  exact appendG_self h
 have h0 := h
 unfold appendK at h0
 split at h0
 ·rename_i el h1
  split at h0
  ·rename_i i h2
   split at h0
   ·rename_i z h3
    split at h0
    ·rename_i h4 h5
     split at h0
     ·rename_i e2 xx nw h6; exact key (i := i) (new := nw) fun K => by simp only [appendK, h1, h2, h3, h4, h5, h6]
     ·rename_i e2 id off len h6
      split at h0
      ·rename_i w' sz els h7
       split at h0
       ·rename_i h8; exact key (i := i) (new := (els.drop off).take len) fun K => by simp only [appendK, h1, h2, h3, h4, h5, h6, h7, h8]
       ·exact h0.elim
      ·exact h0.elim
     ·rename_i b h6
      split at h0
      ·rename_i h8; exact key (i := i) (new := b.data.toList.map fun c => [.int .u8 c.toNat]) fun K => by simp only [appendK, h1, h2, h3, h4, h5, h6, h8]
      ·exact h0.elim
     ·exact h0.elim
    ·exact h0.elim
   ·exact h0.elim
  ·exact h0.elim
 ·exact h0.elim
theorem app_self {ts : Array TypeId} {l : List V} (h : builtinK P .append ts l s K) : builtinK P .append ts l s fun v s' => K v s' ∧ builtinK P .append ts l s fun u t => u = v ∧ t = s' := by
 unfold builtinK at h ⊢
 split at h <;> first
  | exact h.elim
  | (rename_i hb; cases hb; done)
  | (split at h
     ·rename_i h1 h2; (try simp only [h1, h2])
      exact appendK_self h
     ·exact h.elim)
theorem convK_self {t u : TypeId} {x : V} (h : convK P t u x s K) : convK P t u x s fun v s' => K v s' ∧ convK P t u x s fun a b => a = v ∧ b = s' := by
 unfold convK at h ⊢
 split at h
 ·rename_i h1 h2; simp only [h1, h2]; exact ⟨h, (by first | trivial | exact rfl), (by first | trivial | exact rfl)⟩
 ·rename_i h1 h2; simp only [h1, h2]; exact ⟨h, (by first | trivial | exact rfl), (by first | trivial | exact rfl)⟩
 ·rename_i h1 h2 h3
  simp only [h1, h2]
  split at h
  ·rename_i h4
   simp only [h4]
   split at h
   ·exact ⟨fun l hl => ⟨h.1 l hl, fun l' hl' => by rw [hl] at hl'; obtain rfl := Option.some.inj hl'; exact ⟨(by first | trivial | exact rfl), (by first | trivial | exact rfl)⟩, h.2⟩, h.2⟩
   ·split at h
    ·rename_i h5
     simp only [h5]
     exact ⟨fun l hl => ⟨h.1 l hl, fun l' hl' => by rw [hl] at hl'; obtain rfl := Option.some.inj hl'; exact ⟨(by first | trivial | exact rfl), (by first | trivial | exact rfl)⟩, h.2⟩, h.2⟩
    ·exact h.elim
   ·exact h.elim
  ·exact h.elim
 ·rename_i h1 h2
  simp only [h1, h2]
  split at h
  ·rename_i h4 h5
   simp only [h4, h5]
   obtain ⟨h6, h7⟩ := h
   rw [litK_eq] at h7 ⊢
   exact ⟨h6, h7, h6, by rw [litK_eq]; exact ⟨(by first | trivial | exact rfl), (by first | trivial | exact rfl)⟩⟩
  ·exact h.elim
 ·exact h.elim
theorem opK_self (hd : drawable o.op = true) (h : opK P false e s o K) : opK P false e s o fun v s' => K v s' ∧ opK P false e s o fun u t => u = v ∧ t = s' := by
 have key : ∀ {A : (V → List O → Prop) → Prop}, (∀ K, opK P false e s o K = A K) → A (fun v s' => K v s' ∧ A fun u t => u = v ∧ t = s') → opK P false e s o fun v s' => K v s' ∧ opK P false e s o fun u t => u = v ∧ t = s' := by
  intro A hA h
  simp only [hA]
  exact h
 cases ho : o.op with
 | move x => exact key (A := fun K => K (ev e x) s) (fun K => by simp only [opK, ho]) ⟨by simpa only [opK, ho] using h, (by first | trivial | exact rfl), (by first | trivial | exact rfl)⟩
 | assign x => exact key (A := fun K => K (ev e x) s) (fun K => by simp only [opK, ho]) ⟨by simpa only [opK, ho] using h, (by first | trivial | exact rfl), (by first | trivial | exact rfl)⟩
 | pick c x y =>
  simp only [opK, ho] at h ⊢
  split at h
  ·rename_i b hb
   have := csplit_self (s := s) h
   cases b
   ·exact ⟨h, by first | trivial | exact ⟨rfl, rfl⟩⟩
   ·exact ⟨h, by first | trivial | exact ⟨rfl, rfl⟩⟩
  ·exact h.elim
 | alloc t =>
  simp only [opK, ho, litK_eq] at h ⊢
  split at h
  ·exact ⟨h, (by first | trivial | exact rfl), (by first | trivial | exact rfl)⟩
  ·exact h.elim
 | box t x =>
  simp only [opK, ho, litK_eq] at h ⊢
  split at h
  ·exact ⟨h, (by first | trivial | exact rfl), (by first | trivial | exact rfl)⟩
  ·exact h.elim
 | build t ps =>
  simp only [opK, ho] at h ⊢
  split at h
  ·split at h
   ·rename_i h1; simp only [h1]; exact ⟨h, (by first | trivial | exact rfl), (by first | trivial | exact rfl)⟩
   ·exact h.elim
  ·split at h
   ·rename_i h0; simp only [h0]
    split at h
    ·rename_i h1; simp only [h1]; exact ⟨h, (by first | trivial | exact rfl), (by first | trivial | exact rfl)⟩
    ·exact h.elim
   ·exact h.elim
  ·exact h.elim
 | buildSlice t n ps =>
  simp only [opK, fR_eq, fV_eq, litK_eq, ho, Bool.false_and] at h ⊢
  split at h
  ·split at h
   ·rename_i h1 h2; simp only [h1, h2]
    split at h
    ·rename_i h3 h4 h5 h6
     simp only [h3, h4, h5, h6]
     exact ⟨h, (by first | trivial | exact rfl), (by first | trivial | exact rfl)⟩
    ·exact h.elim
   ·exact h.elim
  ·exact h.elim
 | load t x =>
  simp only [opK, ho] at h ⊢
  split at h
  ·split at h
   ·rename_i h1; simp only [h1]
    split at h
    ·rename_i h2; simp only [h2]; exact ⟨h, (by first | trivial | exact rfl), (by first | trivial | exact rfl)⟩
    ·exact h.elim
   ·exact h.elim
  ·split at h
   ·rename_i h2; simp only [h2]; exact ⟨h, (by first | trivial | exact rfl), (by first | trivial | exact rfl)⟩
   ·exact h.elim
  ·split at h
   ·rename_i h1; simp only [h1]
    refine ⟨h.1, fun cs hcs => ?_⟩
    have q := h.2 cs hcs
    split
    ·rename_i v hv
     rw [hv] at q
     exact ⟨q, h.1, fun cs' hcs' => by rw [hcs] at hcs'; obtain rfl := Option.some.inj hcs'; rw [hv]; exact ⟨(by first | trivial | exact rfl), (by first | trivial | exact rfl)⟩⟩
    ·rename_i hv
     rw [hv] at q
     exact q.elim
   ·exact h.elim
  ·exact h.elim
 | store t x y =>
  simp only [opK, ho] at h ⊢
  split at h
  ·split at h
   ·rename_i h1; simp only [h1]
    split at h
    ·rename_i h2 h3 h4; simp only [h2, h3, h4]; exact ⟨h, (by first | trivial | exact rfl), (by first | trivial | exact rfl)⟩
    ·exact h.elim
   ·exact h.elim
  ·split at h
   ·rename_i h1; simp only [h1]
    refine ⟨h.1, fun cs hcs => ?_⟩
    have := h.2 cs hcs
    split at this
    ·rename_i h2 h3 h4
     simp only [h2, h3, h4]
     exact ⟨this, h.1, fun cs' hcs' => by rw [hcs] at hcs'; obtain rfl := Option.some.inj hcs'; simp only [h2, h3, h4]; exact ⟨(by first | trivial | exact rfl), (by first | trivial | exact rfl)⟩⟩
    ·exact this.elim
   ·exact h.elim
  ·exact h.elim
 | nilCheck x =>
  simp only [opK, ho] at h ⊢
  split at h
  ·exact ⟨h, (by first | trivial | exact rfl), (by first | trivial | exact rfl)⟩
  ·exact h.elim
 | binOp op t x y u =>
  simp only [opK, ho] at h ⊢
  have := binK_self h
  simpa using this
 | unOp op t x =>
  simp only [opK, ho] at h ⊢
  have := unK_self h
  simpa using this
 | convert t u x =>
  simp only [opK, ho, Bool.false_and] at h ⊢
  exact convK_self h
 | makeFunc fn xs ys =>
  simp only [opK, ho] at h ⊢
  split at h
  ·exact ⟨h, (by first | trivial | exact rfl), (by first | trivial | exact rfl)⟩
  ·exact h.elim
 | slice t x lo hi mx =>
  cases mx with
  | some _ => rw [ho] at hd; simp [drawable] at hd
  | none =>
   simp only [opK, ho, Option.map_none] at h ⊢
   have := sliceK_self h
   simpa using this
 | fieldAddr t x i =>
  simp only [opK, ho, litK_eq] at h ⊢
  split at h
  ·split at h
   ·rename_i h1; simp only [h1]
    split at h
    ·rename_i h2; simp only [h2]
     split at h
     ·exact ⟨h, (by first | trivial | exact rfl), (by first | trivial | exact rfl)⟩
     ·exact ⟨h, (by first | trivial | exact rfl), (by first | trivial | exact rfl)⟩
     ·exact ⟨h, (by first | trivial | exact rfl), (by first | trivial | exact rfl)⟩
     ·exact h.elim
    ·exact h.elim
   ·exact h.elim
  ·exact h.elim
 | field t x i =>
  simp only [opK, ho] at h ⊢
  split at h
  ·split at h
   ·rename_i h1; simp only [h1]
    split at h
    ·rename_i h2; simp only [h2]; exact ⟨h, (by first | trivial | exact rfl), (by first | trivial | exact rfl)⟩
    ·exact h.elim
   ·exact h.elim
  ·exact h.elim
 | indexAddr t x y =>
  simp only [opK, ho] at h ⊢
  split at h
  ·split at h
   ·rename_i h1; simp only [h1]
    refine ⟨h.1, fun cs hcs => ?_⟩
    have := h.2 cs hcs
    exact ⟨this.1, this.2, h.1, fun cs' hcs' => by rw [hcs] at hcs'; obtain rfl := Option.some.inj hcs'; exact ⟨this.1, (by first | trivial | exact rfl), (by first | trivial | exact rfl)⟩⟩
   ·exact h.elim
  ·split at h
   ·rename_i h1 h2; simp only [h1, h2]
    split at h
    ·rename_i h3; simp only [h3]; exact ⟨h.1, h.2, h.1, (by first | trivial | exact rfl), (by first | trivial | exact rfl)⟩
    ·exact h.elim
   ·exact h.elim
  ·split at h
   ·rename_i h1; simp only [h1]; exact ⟨h.1, h.2, h.1, (by first | trivial | exact rfl), (by first | trivial | exact rfl)⟩
   ·exact h.elim
  ·split at h
   ·rename_i h1; simp only [h1]; exact ⟨h.1, h.2, h.1, (by first | trivial | exact rfl), (by first | trivial | exact rfl)⟩
   ·exact h.elim
  ·exact h.elim
 | index t x y =>
  simp only [opK, ho] at h ⊢
  split at h
  ·refine ⟨h.1, fun c hc => ⟨h.2 c hc, h.1, fun c' hc' => by rw [hc] at hc'; obtain rfl := Option.some.inj hc'; exact ⟨(by first | trivial | exact rfl), (by first | trivial | exact rfl)⟩⟩⟩
  ·split at h
   ·rename_i h1; simp only [h1]
    refine ⟨h.1, h.2.1, fun c hc => ⟨h.2.2 c hc, h.1, h.2.1, fun c' hc' => by rw [hc] at hc'; obtain rfl := Option.some.inj hc'; exact ⟨(by first | trivial | exact rfl), (by first | trivial | exact rfl)⟩⟩⟩
   ·exact h.elim
  ·exact h.elim
 | lookup t x y ok =>
  simp only [opK, ho] at h ⊢
  split at h
  ·split at h
   ·rename_i h1 h2; (try simp only [h1, h2])
    split at h
    ·exact ⟨h, (by first | trivial | exact rfl), (by first | trivial | exact rfl)⟩
    ·split at h
     ·rename_i h3; (try simp only [h3])
      refine findK_mono (fun r hr => ?_) _ _ (findK_self _ _ h)
      obtain ⟨h5, h6⟩ := hr
      cases r with
      | none => exact ⟨h5, findK_mono (fun q hq => by subst hq; exact ⟨(by first | trivial | exact rfl), (by first | trivial | exact rfl)⟩) _ _ h6⟩
      | some r => exact ⟨h5, findK_mono (fun q hq => by subst hq; exact ⟨(by first | trivial | exact rfl), (by first | trivial | exact rfl)⟩) _ _ h6⟩
     ·exact h.elim
    ·exact h.elim
   ·exact h.elim
  ·exact h.elim
 | mapUpdate t x y z =>
  simp only [opK, fR_eq, fV_eq, litK_eq, ho] at h ⊢
  split at h
  ·split at h
   ·rename_i h1 h2; (try simp only [h1, h2])
    refine findK_mono (fun r hr => ?_) _ _ (findK_self _ _ h)
    obtain ⟨h5, h6⟩ := hr
    cases r with
    | none => exact ⟨h5.1, h5.2, findK_mono (fun q hq => by subst hq; exact ⟨h5.1, (by first | trivial | exact rfl), (by first | trivial | exact rfl)⟩) _ _ h6⟩
    | some r => exact ⟨h5, findK_mono (fun q hq => by subst hq; exact ⟨(by first | trivial | exact rfl), (by first | trivial | exact rfl)⟩) _ _ h6⟩
   ·exact h.elim
  ·exact h.elim
 | mapEntry t x y =>
  simp only [opK, fR_eq, fV_eq, litK_eq, ho] at h ⊢
  split at h
  ·split at h
   ·rename_i h1 h2 h3; (try simp only [h1, h2, h3])
    refine findK_mono (fun r hr => ?_) _ _ (findK_self _ _ h)
    obtain ⟨h5, h6⟩ := hr
    cases r with
    | none => exact ⟨h5.1, h5.2.1, h5.2.2, findK_mono (fun q hq => by subst hq; exact ⟨h5.1, h5.2.1, (by first | trivial | exact rfl), (by first | trivial | exact rfl)⟩) _ _ h6⟩
    | some r => exact ⟨h5.1, h5.2, findK_mono (fun q hq => by subst hq; exact ⟨h5.1, (by first | trivial | exact rfl), (by first | trivial | exact rfl)⟩) _ _ h6⟩
   ·exact h.elim
  ·exact h.elim
 | entryStore t x y z =>
  simp only [opK, fV_eq, ho] at h ⊢
  split at h
  ·split at h
   ·rename_i h1; (try simp only [h1])
    exact ⟨h.1, h.2, h.1, (by first | trivial | exact rfl), (by first | trivial | exact rfl)⟩
   ·exact h.elim
  ·exact h.elim
 | extract x i =>
  simp only [opK, ho] at h ⊢
  split at h
  ·split at h
   ·rename_i h1; simp only [h1]; exact ⟨h, (by first | trivial | exact rfl), (by first | trivial | exact rfl)⟩
   ·exact h.elim
  ·exact h.elim
 | call c =>
  rw [ho] at hd
  simp only [opK, ho] at h ⊢
  unfold callK at h ⊢
  split at h
  ·rename_i b hb
   obtain ⟨cl, ar, ts⟩ := c
   simp only at hb
   subst hb
   cases b <;> first
    | (simp [drawable] at hd; done)
    | exact len_self h
    | exact max_self h
    | exact min_self h
    | exact del_self h
    | exact app_self h
  ·split at h
   ·rename_i g fs cs hev
    simp only [fL_eq (fV_eq 8)] at h
    simp only [hev, fL_eq (fV_eq 8)]
    rcases h with ⟨r, hr, hk⟩ | ⟨r, hr, hk⟩ | ⟨r, t, hr, hc, hk⟩
    ·exact .inl ⟨r, hr, fun q => ⟨hk q, .inl ⟨r, hr, fun _ => ⟨(by first | trivial | exact rfl), (by first | trivial | exact rfl)⟩⟩⟩⟩
    ·exact .inr (.inl ⟨r, hr, hk, .inr (.inl ⟨r, hr, (by first | trivial | exact rfl), (by first | trivial | exact rfl)⟩)⟩)
    ·exact .inr (.inr ⟨r, t, hr, hc, hk, .inr (.inr ⟨r, t, hr, hc, (by first | trivial | exact rfl), (by first | trivial | exact rfl)⟩)⟩)
   ·exact h.elim
  ·exact h.elim
 | _ => rw [ho] at hd; simp [drawable] at hd
end
end Go.Proofs.YtcbknemdidehlaaGreatDoor.Ab
namespace Go.Proofs.YtcbknemdidehlaaGreatDoor.Ab
open Go.RowKit
set_option linter.unusedVariables false
set_option linter.unusedSimpArgs false
section
variable {P : Program} {e e' : Env} {s s' : List O} {o : Oper} {K : V → List O → Prop}
theorem map_ev {xs : Array Operand} (h : ∀ x ∈ xs.toList, ev e x = ev e' x) : xs.toList.map (ev e) = xs.toList.map (ev e') := List.map_congr_left h
theorem opK_env (h : ∀ x ∈ o.op.operands.toList, ev e x = ev e' x) (hd : drawable o.op = true) : opK P false e s o K = opK P false e' s o K := by
 cases ho : o.op <;> rw [ho] at h hd <;> try (simp [drawable] at hd; done)
 case move x => simp only [opK, ho]; rw [h x (by simp [Op.operands])]
 case assign x => simp only [opK, ho]; rw [h x (by simp [Op.operands])]
 case pick c x y => simp only [opK, ho]; rw [h c (by simp [Op.operands]), h x (by simp [Op.operands]), h y (by simp [Op.operands])]
 case alloc t => simp only [opK, ho]
 case box t x => simp only [opK, ho]; rw [h x (by simp [Op.operands])]
 case build t ps =>
  simp only [opK, ho]
  have : (ps.toList.map fun q => (q.1, ev e q.2)) = ps.toList.map fun q => (q.1, ev e' q.2) := List.map_congr_left fun q hq => by rw [h q.2 (by simp only [Op.operands, List.mem_map]; exact ⟨q, hq, rfl⟩)]
  rw [this]
 case buildSlice t n ps =>
  simp only [opK, fR_eq, fV_eq, litK_eq, ho, Bool.false_and]
  have h1 : (ps.toList.map fun q => (q.1, frz 8 s (ev e q.2))) = ps.toList.map fun q => (q.1, frz 8 s (ev e' q.2)) := List.map_congr_left fun q hq => by rw [h q.2 (by simp only [Op.operands, List.mem_map]; exact ⟨q, hq, rfl⟩)]
  have h2 : (ps.toList.flatMap fun q => idl 8 s (ev e q.2)) = ps.toList.flatMap fun q => idl 8 s (ev e' q.2) := by
   simp only [List.flatMap]
   congr 1
   exact List.map_congr_left fun q hq => by rw [h q.2 (by simp only [Op.operands, List.mem_map]; exact ⟨q, hq, rfl⟩)]
  rw [h1, h2]
 case load t x => simp only [opK, ho]; rw [h x (by simp [Op.operands])]
 case store t x y => simp only [opK, ho]; rw [h x (by simp [Op.operands]), h y (by simp [Op.operands])]
 case nilCheck x => simp only [opK, ho]; rw [h x (by simp [Op.operands])]
 case binOp op t x y u => simp only [opK, ho]; rw [h x (by simp [Op.operands]), h y (by simp [Op.operands])]
 case unOp op t x => simp only [opK, ho]; rw [h x (by simp [Op.operands])]
 case convert t u x => simp only [opK, ho, Bool.false_and]; rw [h x (by simp [Op.operands])]
 case makeFunc fn xs ys =>
  simp only [opK, ho]
  rw [map_ev (xs := xs) fun x hx => h x (by simp only [Op.operands, Array.toList_append, List.mem_append]; exact .inl hx), map_ev (xs := ys) fun x hx => h x (by simp only [Op.operands, Array.toList_append, List.mem_append]; exact .inr hx)]
 case slice t x lo hi mx =>
  simp only [opK, ho]
  have ho : ∀ (z : Option Operand), (∀ y ∈ z.toArray.toList, ev e y = ev e' y) → z.map (ev e) = z.map (ev e') := by
   intro z hz
   cases z with
   | none => rfl
   | some y => simp only [Option.map_some]; rw [hz y (by simp)]
  have m1 : ∀ y ∈ lo.toArray.toList, ev e y = ev e' y := fun y hy => h y (by simp only [Op.operands, Array.toList_append, List.mem_append]; exact .inl (.inl (.inr hy)))
  have m2 : ∀ y ∈ hi.toArray.toList, ev e y = ev e' y := fun y hy => h y (by simp only [Op.operands, Array.toList_append, List.mem_append]; exact .inl (.inr hy))
  have m3 : ∀ y ∈ mx.toArray.toList, ev e y = ev e' y := fun y hy => h y (by simp only [Op.operands, Array.toList_append, List.mem_append]; exact .inr hy)
  rw [h x (by simp [Op.operands]), ho lo m1, ho hi m2, ho mx m3]
 case fieldAddr t x i => simp only [opK, ho]; rw [h x (by simp [Op.operands])]
 case field t x i => simp only [opK, ho]; rw [h x (by simp [Op.operands])]
 case indexAddr t x y => simp only [opK, ho]; rw [h x (by simp [Op.operands]), h y (by simp [Op.operands])]
 case index t x y => simp only [opK, ho]; rw [h x (by simp [Op.operands]), h y (by simp [Op.operands])]
 case extract x i => simp only [opK, ho]; rw [h x (by simp [Op.operands])]
 case lookup t x y ok => simp only [opK, ho]; rw [h x (by simp [Op.operands]), h y (by simp [Op.operands])]
 case mapUpdate t x y z => simp only [opK, fR_eq, fV_eq, litK_eq, ho]; rw [h x (by simp [Op.operands]), h y (by simp [Op.operands]), h z (by simp [Op.operands])]
 case mapEntry t x y => simp only [opK, fR_eq, fV_eq, litK_eq, ho]; rw [h x (by simp [Op.operands]), h y (by simp [Op.operands])]
 case entryStore t x y z => simp only [opK, fR_eq, fV_eq, litK_eq, ho]; rw [h x (by simp [Op.operands]), h y (by simp [Op.operands]), h z (by simp [Op.operands])]
 case call c =>
  simp only [opK, ho]
  have ha : c.args.toList.map (ev e) = c.args.toList.map (ev e') := map_ev fun x hx => h x (by simp only [Op.operands, Call.operands, Array.toList_append, List.mem_append]; exact .inr hx)
  unfold callK
  rw [ha]
  split
  ·rfl
  ·rename_i f hf
   rw [h f (by simp only [Op.operands, Call.operands, Array.toList_append, List.mem_append]; exact .inl (by simp [hf]))]
  ·rfl
def agr (s s' : List O) : Prop := ∀ (i : Nat) o o', s[i]? = some o → s'[i]? = some o' → o.ro = o'.ro
def quiet (P : Program) : Op → Bool
 | .alloc _ => false
 | .box _ _ => false
 | .buildSlice _ _ _ => false
 | .store _ _ _ => false
 | .convert _ u _ => (match P.underlying u with | some (.slice _) => false | _ => true)
 | .call { callee := .value _, .. } => false
 | .call { callee := .builtin .delete, .. } => false
 | .call { callee := .builtin .append, .. } => false
 | .mapUpdate _ _ _ _ => false
 | .mapEntry _ _ _ => false
 | .entryStore _ _ _ _ => false
 | .makeMap _ _ => false
 | .range _ _ => false
 | .next _ _ => false
 | _ => true
theorem ro_box {o : O} {w : Bool} {cs : List V} (h : O.ro (.box w cs) = o.ro) : ∃ w', o = .box w' cs := by
 cases o <;> simp [O.ro] at h
 exact ⟨_, by rw [h]⟩
theorem ro_arr {o : O} {w : Bool} {z : Nat} {els : List (List V)} (h : O.ro (.arr w z els) = o.ro) : ∃ w', o = .arr w' z els := by
 cases o <;> simp [O.ro] at h
 obtain ⟨rfl, rfl⟩ := h
 exact ⟨_, rfl⟩
theorem ro_map {o : O} {w : Nat} {es : List (Nat × V × V)} (h : O.ro (.map w es) = o.ro) : o = .map w es := by
 cases o <;> simp [O.ro] at h
 obtain ⟨rfl, rfl⟩ := h
 rfl
theorem binK_mono {op : BinOp} {t : TypeId} {x y : V} {A B : V → Prop} (hAB : ∀ u, A u → B u) (h : binK P op t x y A) : binK P op t x y B := by
 unfold binK at h ⊢
 split at h
 ·split at h
  ·exact ⟨h.1, hAB _ h.2⟩
  ·exact ⟨h.1, hAB _ h.2⟩
  ·split at h
   ·exact h.elim
   ·rename_i hkj
    (try simp only [hkj])
    split at h
    ·exact hAB _ h
    ·exact hAB _ h
    ·exact hAB _ h
    ·exact ⟨h.1, hAB _ h.2⟩
    ·exact ⟨h.1, hAB _ h.2⟩
    ·split at h
     ·rename_i r hr
      (try simp only [hr])
      exact hAB _ h
     ·rename_i hr
      split at h
      ·rename_i c hc
       (try simp only [hr, hc])
       exact hAB _ h
      ·exact h.elim
 ·split at h
  ·exact ⟨h.1, hAB _ h.2⟩
  ·split at h
   ·rename_i c hc
    (try simp only [hc])
    exact hAB _ h
   ·exact h.elim
 ·split at h
  ·rename_i hu
   split at h
   ·rename_i c hc
    (try simp only [hu, hc])
    exact hAB _ h
   ·exact h.elim
  ·exact h.elim
 ·split at h
  ·rename_i fs hu
   split at h
   ·rename_i c hc
    split at h
    ·rename_i r hr
     (try simp only [hu, hc, hr])
     exact hAB _ h
    ·exact h.elim
   ·exact h.elim
  ·exact h.elim
 ·split at h
  ·rename_i d hu
   split at h
   ·rename_i c hc
    split at h
    ·rename_i r hr
     (try simp only [hu, hc, hr])
     exact hAB _ h
    ·exact h.elim
   ·exact h.elim
  ·exact h.elim
theorem len_move {R : V → List O → Prop} {ts : Array TypeId} {l : List V} (hx : ∀ y ∈ l, ∀ i, topId y = some i → ∃ o', s'[i]? = some o' ∧ ∀ o, s[i]? = some o → o.ro = o'.ro) (hR : ∀ v, K v s → R v s') (h : builtinK P .len ts l s K) : builtinK P .len ts l s' R := by
 match l, h, hx with
 | [x], h, hx =>
  simp only [builtinK] at h ⊢
  split at h
  ·rename_i t ht
   (try rw [ht])
   have hmem := hx x List.mem_cons_self
   unfold lenK at h ⊢
   simp only [at?_eq] at h ⊢
   split at h
   ·split at h
    ·exact fun q => hR _ (h q)
    ·exact h.elim
   ·split at h
    ·exact fun q => hR _ (h q)
    ·exact fun q => hR _ (h q)
    ·exact h.elim
   ·exact ⟨h.1, hR _ h.2⟩
   ·split at h
    ·exact hR _ h
    ·rename_i id
     obtain ⟨o', ho', ha⟩ := hmem id rfl
     split at h
     ·rename_i w es hs
      obtain rfl := ro_map (ha _ hs)
      (try simp only [ho'])
      exact fun q => hR _ (h q)
     ·exact h.elim
    ·exact h.elim
   ·exact h.elim
  ·exact h.elim
 | [], h, _ => exact h.elim
 | _ :: _ :: _, h, _ => exact h.elim
theorem max_move {R : V → List O → Prop} {ts : Array TypeId} {l : List V} (hR : ∀ v, K v s → R v s') (h : builtinK P .max ts l s K) : builtinK P .max ts l s' R := by
 unfold builtinK at h ⊢
 split at h <;> first
  | exact h.elim
  | (rename_i hb; cases hb; done)
  | (split at h
     ·rename_i h1; (try simp only [h1]); exact hR _ h
     ·exact h.elim)
theorem min_move {R : V → List O → Prop} {ts : Array TypeId} {l : List V} (hR : ∀ v, K v s → R v s') (h : builtinK P .min ts l s K) : builtinK P .min ts l s' R := by
 unfold builtinK at h ⊢
 split at h <;> first
  | exact h.elim
  | (rename_i hb; cases hb; done)
  | (split at h
     ·rename_i h1; (try simp only [h1]); exact hR _ h
     ·exact h.elim)
theorem opK_move {R : V → List O → Prop} (hq : quiet P o.op = true) (hd : drawable o.op = true) (hx : ∀ x ∈ looks o.op, ∀ i, topId (ev e x) = some i → ∃ o', s'[i]? = some o' ∧ ∀ o, s[i]? = some o → o.ro = o'.ro) (hR : ∀ v, K v s → R v s')
  (h : opK P false e s o K) : opK P false e s' o R := by
 cases ho : o.op <;> rw [ho] at hq hd hx <;> try (first | (simp [drawable] at hd; done) | (simp [quiet] at hq; done))
 case move x => simp only [opK, ho] at h ⊢; exact hR _ h
 case assign x => simp only [opK, ho] at h ⊢; exact hR _ h
 case pick c x y =>
  simp only [opK, ho] at h ⊢
  split at h
  ·rename_i b hb
   cases b
   ·exact hR _ h
   ·exact hR _ h
  ·exact h.elim
 case build t ps =>
  simp only [opK, ho] at h ⊢
  split at h
  ·split at h
   ·rename_i h1; (try simp only [h1]); exact hR _ h
   ·exact h.elim
  ·split at h
   ·rename_i h0; (try simp only [h0])
    split at h
    ·rename_i h1; (try simp only [h1]); exact hR _ h
    ·exact h.elim
   ·exact h.elim
  ·exact h.elim
 case load t x =>
  have hx := hx x (by simp [looks])
  simp only [opK, ho, at?_eq] at h ⊢
  split at h
  ·rename_i id off hev
   obtain ⟨o', ho', ha⟩ := hx id (by rw [hev]; rfl)
   split at h
   ·rename_i wr cs hs
    obtain ⟨w', rfl⟩ := ro_box (ha _ hs)
    (try simp only [ho'])
    split at h
    ·rename_i h2; (try rw [h2]); exact hR _ h
    ·exact h.elim
   ·exact h.elim
  ·split at h
   ·rename_i h2; (try rw [h2]); exact hR _ h
   ·exact h.elim
  ·rename_i id i off hev
   obtain ⟨o', ho', ha⟩ := hx id (by rw [hev]; rfl)
   split at h
   ·rename_i wr sz els hs
    obtain ⟨w', rfl⟩ := ro_arr (ha _ hs)
    (try simp only [ho'])
    refine ⟨h.1, fun cs hcs => ?_⟩
    have q := h.2 cs hcs
    split at q
    ·rename_i u hu
     (try rw [hu])
     exact hR _ q
    ·exact q.elim
   ·exact h.elim
  ·exact h.elim
 case nilCheck x =>
  simp only [opK, ho] at h ⊢
  split at h
  ·exact hR _ h
  ·exact h.elim
 case binOp op t x y u =>
  simp only [opK, ho] at h ⊢
  exact binK_mono hR h
 case unOp op t x =>
  simp only [opK, ho] at h ⊢
  unfold unK at h ⊢
  split at h
  ·exact hR _ h
  ·exact hR _ h
  ·exact h.elim
 case convert t u x =>
  have hx := hx x (by simp [looks])
  simp only [opK, ho, Bool.false_and] at h ⊢
  unfold convK at h ⊢
  simp only [at?_eq] at h ⊢
  split at h
  ·rename_i h1 h2; (try simp only [h1, h2]); exact hR _ h
  ·rename_i h1 h2; (try simp only [h1, h2]); exact hR _ h
  ·rename_i h1 h2 h3
   (try simp only [h1, h2])
   split at h
   ·rename_i h4
    (try simp only [h4])
    split at h
    ·exact ⟨fun l hl => hR _ (h.1 l hl), h.2⟩
    ·rename_i id off len hev
     obtain ⟨o', ho', ha⟩ := hx id (by rw [hev]; rfl)
     split at h
     ·rename_i wr sz els hs
      obtain ⟨w', rfl⟩ := ro_arr (ha _ hs)
      (try simp only [ho'])
      exact ⟨fun l hl => hR _ (h.1 l hl), h.2⟩
     ·exact h.elim
    ·exact h.elim
   ·exact h.elim
  ·rename_i h0 h1 h2
   simp [quiet, h1] at hq
  ·exact h.elim
 case makeFunc fn xs ys =>
  simp only [opK, ho] at h ⊢
  split at h
  ·exact hR _ h
  ·exact h.elim
 case slice t x lo hi mx =>
  have hx2 := hx x (by simp [looks])
  cases mx with
  | some _ => simp [drawable] at hd
  | none =>
   simp only [opK, ho, Option.map_none] at h ⊢
   unfold sliceK at h ⊢
   simp only [low_iff, high_iff, at?_eq] at h ⊢
   split at h
   ·rename_i h1
    obtain ⟨l, hl, r, hr, a, b⟩ := h
    exact ⟨l, hl, r, hr, a, hR _ b⟩
   ·split at h
    ·rename_i z hz
     (try simp only [hz])
     obtain ⟨l, hl, r, hr, a, b, c⟩ := h
     exact ⟨l, hl, r, hr, a, b, hR _ c⟩
    ·exact h.elim
   ·rename_i id off len hu hev
    obtain ⟨o', ho', ha⟩ := hx2 id (by rw [hev]; rfl)
    split at h
    ·rename_i wr sz els z hmx hs hz
     obtain ⟨w', rfl⟩ := ro_arr (ha _ hs)
     (try simp only [ho', hz])
     split at h
     ·rename_i hq2
      (try simp only [hq2])
      obtain ⟨l, hl, r, hr, a, b⟩ := h
      exact ⟨l, hl, r, hr, a, hR _ b⟩
     ·exact h.elim
    ·exact h.elim
   ·exact h.elim
 case fieldAddr t x i =>
  simp only [opK, ho, litK_eq] at h ⊢
  split at h
  ·split at h
   ·rename_i h1; (try simp only [h1])
    split at h
    ·rename_i h2; (try simp only [h2])
     split at h
     ·exact hR _ h
     ·exact hR _ h
     ·exact hR _ h
     ·exact h.elim
    ·exact h.elim
   ·exact h.elim
  ·exact h.elim
 case field t x i =>
  simp only [opK, ho] at h ⊢
  split at h
  ·split at h
   ·rename_i h1; (try simp only [h1])
    split at h
    ·rename_i h2; (try simp only [h2]); exact hR _ h
    ·exact h.elim
   ·exact h.elim
  ·exact h.elim
 case indexAddr t x y =>
  have hx := hx x (by simp [looks])
  simp only [opK, ho, at?_eq] at h ⊢
  split at h
  ·split at h
   ·rename_i h1; (try simp only [h1])
    exact ⟨h.1, fun cs hcs => ⟨(h.2 cs hcs).1, hR _ (h.2 cs hcs).2⟩⟩
   ·exact h.elim
  ·rename_i id off len k n hu hev hn
   obtain ⟨o', ho', ha⟩ := hx id (by rw [hev]; rfl)
   split at h
   ·rename_i wr sz els z hs hz
    obtain ⟨w', rfl⟩ := ro_arr (ha _ hs)
    (try simp only [ho', hz])
    split at h
    ·rename_i h3; (try simp only [h3]); exact ⟨h.1, hR _ h.2⟩
    ·exact h.elim
   ·exact h.elim
  ·split at h
   ·rename_i h1; (try simp only [h1]); exact ⟨h.1, hR _ h.2⟩
   ·exact h.elim
  ·split at h
   ·rename_i h1; (try simp only [h1]); exact ⟨h.1, hR _ h.2⟩
   ·exact h.elim
  ·exact h.elim
 case index t x y =>
  simp only [opK, ho] at h ⊢
  split at h
  ·exact ⟨h.1, fun c hc => hR _ (h.2 c hc)⟩
  ·split at h
   ·rename_i h1; (try simp only [h1])
    exact ⟨h.1, h.2.1, fun c hc => hR _ (h.2.2 c hc)⟩
   ·exact h.elim
  ·exact h.elim
 case lookup t x y ok =>
  have hx := hx x (by simp [looks])
  simp only [opK, ho, at?_eq] at h ⊢
  split at h
  ·split at h
   ·rename_i h1 h2; (try simp only [h1, h2])
    split at h
    ·exact hR _ h
    ·rename_i id hev
     obtain ⟨o', ho', ha⟩ := hx id (by rw [hev]; rfl)
     split at h
     ·rename_i ck es hs
      obtain rfl := ro_map (ha _ hs)
      (try simp only [ho'])
      refine findK_mono (fun r hr => ?_) _ _ h
      cases r with
      | none => exact hR _ hr
      | some r => exact hR _ hr
     ·exact h.elim
    ·exact h.elim
   ·exact h.elim
  ·exact h.elim
 case extract x i =>
  simp only [opK, ho] at h ⊢
  split at h
  ·split at h
   ·rename_i h1; (try simp only [h1]); exact hR _ h
   ·exact h.elim
  ·exact h.elim
 case call c =>
  simp only [opK, ho] at h ⊢
  unfold callK at h ⊢
  split at h
  ·rename_i b hb
   obtain ⟨cl, ar, ts⟩ := c
   simp only at hb
   subst hb
   have hx : ∀ x ∈ ar.toList, ∀ i, topId (ev e x) = some i → ∃ o', s'[i]? = some o' ∧ ∀ o, s[i]? = some o → o.ro = o'.ro := fun x hx' => hx x hx'
   have hmem : ∀ y ∈ ar.toList.map (ev e), ∀ i, topId y = some i → ∃ o', s'[i]? = some o' ∧ ∀ o, s[i]? = some o → o.ro = o'.ro := by
    intro y hy i hi
    obtain ⟨x, hx', rfl⟩ := List.mem_map.1 hy
    exact hx x hx' i hi
   cases b <;> first
    | (simp [drawable] at hd; done)
    | (simp [quiet] at hq; done)
    | exact len_move hmem hR h
    | exact max_move hR h
    | exact min_move hR h
  ·rename_i f hf
   obtain ⟨cl, ar, ts⟩ := c
   simp only at hf
   subst hf
   simp [quiet] at hq
  ·exact h.elim
theorem clo_mono : ∀ (n : Nat) (v : V), clo n v = true → clo (n + 1) v = true
 | 0, v, h => by simp [clo] at h
 | n + 1, v, h => by
  have l : ∀ cs : List V, cs.all (clo n) = true → cs.all (clo (n + 1)) = true := fun cs h => List.all_eq_true.2 fun x hx => clo_mono n x (List.all_eq_true.1 h x hx)
  cases v <;> simp only [clo, Bool.and_eq_true] at h ⊢ <;> try (first | exact h | (cases h; done))
  ·exact ⟨l _ h.1, l _ h.2⟩
  ·exact clo_mono n _ h
  ·exact l _ h
  ·exact l _ h
theorem clo_frz : ∀ (n : Nat) (v : V), clo n v = true → ∀ s s' : List O, frz n s v = frz n s' v ∧ idl n s v = []
 | 0, v, h, s, s' => by simp [clo] at h
 | n + 1, v, h, s, s' => by
  have l : ∀ cs : List V, cs.all (clo n) = true → cs.map (frz n s) = cs.map (frz n s') ∧ cs.flatMap (idl n s) = [] := fun cs h =>
   ⟨List.map_congr_left fun x hx => (clo_frz n x (List.all_eq_true.1 h x hx) s s').1, List.flatMap_eq_nil_iff.2 fun x hx => (clo_frz n x (List.all_eq_true.1 h x hx) s s').2⟩
  cases v <;> simp only [clo, Bool.and_eq_true] at h <;> simp only [frz, idl] <;> try (first | exact trivial | exact ⟨trivial, trivial⟩ | exact ⟨rfl, rfl⟩ | (cases h; done))
  ·exact ⟨by rw [(l _ h.1).1, (l _ h.2).1], by rw [(l _ h.1).2, (l _ h.2).2]; rfl⟩
  ·exact ⟨by rw [(clo_frz n _ h s s').1], (clo_frz n _ h s s').2⟩
  ·exact ⟨by rw [(l _ h).1], (l _ h).2⟩
  ·exact ⟨by rw [(l _ h).1], (l _ h).2⟩
theorem opM_move (hm : mild o.op = true) (hc : closedO e o = true) (hv : ∀ u t, K u t → clo 8 u = true) (h : opK P false e s o K) : opK P false e s' o fun v t => t = s' ∧ K v s := by
 have hcl : ∀ x ∈ o.op.operands.toList, clo 8 (ev e x) = true := List.all_eq_true.1 hc
 cases ho : o.op <;> rw [ho] at hm hcl <;> try (simp [mild] at hm; done)
 case buildSlice t n ps =>
  simp only [opK, fR_eq, fV_eq, litK_eq, ho, Bool.false_and] at h ⊢
  have h1 : (ps.toList.map fun q => (q.1, frz 8 s' (ev e q.2))) = ps.toList.map fun q => (q.1, frz 8 s (ev e q.2)) :=
   List.map_congr_left fun q hq => by rw [(clo_frz 8 _ (hcl q.2 (by simp only [Op.operands, Array.toList_map, List.mem_map]; exact ⟨q, hq, rfl⟩)) s' s).1]
  have h2 : ∀ s, (ps.toList.flatMap fun q => idl 8 s (ev e q.2)) = [] := fun s =>
   List.flatMap_eq_nil_iff.2 fun q hq => (clo_frz 8 _ (hcl q.2 (by simp only [Op.operands, Array.toList_map, List.mem_map]; exact ⟨q, hq, rfl⟩)) s s).2
  rw [h1]
  simp only [h2, mark] at h ⊢
  split at h
  ·split at h
   ·rename_i h3 h4; (try simp only [h3, h4])
    split at h
    ·rename_i h5 h6 h7 h8
     (try simp only [h5, h6, h7, h8])
     exact ⟨trivial, h⟩
    ·exact h.elim
   ·exact h.elim
  ·exact h.elim
 case call c =>
  simp only [opK, ho] at h ⊢
  unfold callK at h ⊢
  split at h
  ·rename_i b hb
   obtain ⟨cl, ar, ts⟩ := c
   simp only at hb
   subst hb
   simp [mild] at hm
  ·rename_i f hf
   have hargs : ∀ v ∈ c.args.toList.map (ev e), clo 8 v = true := by
    intro v hv
    obtain ⟨x, hx, rfl⟩ := List.mem_map.1 hv
    exact hcl x (by simp only [Op.operands, Call.operands, Array.toList_append, List.mem_append]; exact .inr hx)
   have hfc : clo 8 (ev e f) = true := hcl f (by simp only [Op.operands, Call.operands, Array.toList_append, List.mem_append]; exact .inl (by simp [hf]))
   split at h
   ·rename_i g fs cs hev
    rw [hev] at hfc
    simp only [clo, Bool.and_eq_true] at hfc
    have hall : ∀ v ∈ fs ++ c.args.toList.map (ev e) ++ cs, clo 8 v = true := by
     intro v hv
     simp only [List.mem_append] at hv
     rcases hv with (hv | hv) | hv
     ·exact clo_mono 7 v (List.all_eq_true.1 hfc.1 v hv)
     ·exact hargs v hv
     ·exact clo_mono 7 v (List.all_eq_true.1 hfc.2 v hv)
    have h1 : (fs ++ c.args.toList.map (ev e) ++ cs).map (frz 8 s') = (fs ++ c.args.toList.map (ev e) ++ cs).map (frz 8 s) := List.map_congr_left fun v hv => (clo_frz 8 v (hall v hv) s' s).1
    have h2 : ∀ s, (fs ++ c.args.toList.map (ev e) ++ cs).flatMap (idl 8 s) = [] := fun s => List.flatMap_eq_nil_iff.2 fun v hv => (clo_frz 8 v (hall v hv) s s).2
    rw [h1]
    simp only [h2, mark] at h ⊢
    simp only [fL_eq (fV_eq 8)] at h ⊢
    rcases h with ⟨r, hr, hk⟩ | ⟨r, hr, hk⟩ | ⟨r, t, hr, hcc, hk⟩
    ·exact .inl ⟨r, hr, fun q => ⟨trivial, hk q⟩⟩
    ·exact .inr (.inl ⟨r, hr, trivial, hk⟩)
    ·rw [hv _ _ hk, List.all_eq_true.2 hall] at hcc
     cases hcc
   ·exact h.elim
  ·exact h.elim
theorem opM_full (hm : mild o.op = true) (hc : closedO e o = true) (h : opK P false e s o K) : opK P false e s o fun v t => K v t ∧ (clo 8 v = true → t = s) := by
 have hcl : ∀ x ∈ o.op.operands.toList, clo 8 (ev e x) = true := List.all_eq_true.1 hc
 cases ho : o.op <;> rw [ho] at hm hcl <;> try (simp [mild] at hm; done)
 case buildSlice t n ps =>
  simp only [opK, fR_eq, fV_eq, litK_eq, ho, Bool.false_and] at h ⊢
  have h2 : ∀ s, (ps.toList.flatMap fun q => idl 8 s (ev e q.2)) = [] := fun s =>
   List.flatMap_eq_nil_iff.2 fun q hq => (clo_frz 8 _ (hcl q.2 (by simp only [Op.operands, Array.toList_map, List.mem_map]; exact ⟨q, hq, rfl⟩)) s s).2
  simp only [h2, mark] at h ⊢
  split at h
  ·split at h
   ·rename_i h3 h4; (try simp only [h3, h4])
    split at h
    ·rename_i h5 h6 h7 h8
     (try simp only [h5, h6, h7, h8])
     exact ⟨h, fun _ => (by first | trivial | exact rfl)⟩
    ·exact h.elim
   ·exact h.elim
  ·exact h.elim
 case call c =>
  simp only [opK, ho] at h ⊢
  unfold callK at h ⊢
  split at h
  ·rename_i b hb
   obtain ⟨cl, ar, ts⟩ := c
   simp only at hb
   subst hb
   simp [mild] at hm
  ·rename_i f hf
   have hargs : ∀ v ∈ c.args.toList.map (ev e), clo 8 v = true := by
    intro v hv
    obtain ⟨x, hx, rfl⟩ := List.mem_map.1 hv
    exact hcl x (by simp only [Op.operands, Call.operands, Array.toList_append, List.mem_append]; exact .inr hx)
   have hfc : clo 8 (ev e f) = true := hcl f (by simp only [Op.operands, Call.operands, Array.toList_append, List.mem_append]; exact .inl (by simp [hf]))
   split at h
   ·rename_i g fs cs hev
    rw [hev] at hfc
    simp only [clo, Bool.and_eq_true] at hfc
    have hall : ∀ v ∈ fs ++ c.args.toList.map (ev e) ++ cs, clo 8 v = true := by
     intro v hv
     simp only [List.mem_append] at hv
     rcases hv with (hv | hv) | hv
     ·exact clo_mono 7 v (List.all_eq_true.1 hfc.1 v hv)
     ·exact hargs v hv
     ·exact clo_mono 7 v (List.all_eq_true.1 hfc.2 v hv)
    have h2 : ∀ s, (fs ++ c.args.toList.map (ev e) ++ cs).flatMap (idl 8 s) = [] := fun s => List.flatMap_eq_nil_iff.2 fun v hv => (clo_frz 8 v (hall v hv) s s).2
    simp only [h2, mark] at h ⊢
    simp only [fL_eq (fV_eq 8)] at h ⊢
    rcases h with ⟨r, hr, hk⟩ | ⟨r, hr, hk⟩ | ⟨r, t, hr, hcc, hk⟩
    ·exact .inl ⟨r, hr, fun q => ⟨hk q, fun _ => (by first | trivial | exact rfl)⟩⟩
    ·exact .inr (.inl ⟨r, hr, hk, fun _ => (by first | trivial | exact rfl)⟩)
    ·refine .inr (.inr ⟨r, t, hr, hcc, hk, fun q => ?_⟩)
     rw [q, List.all_eq_true.2 hall] at hcc
     cases hcc
   ·exact h.elim
  ·exact h.elim
end
end Go.Proofs.YtcbknemdidehlaaGreatDoor.Ab
namespace Go.Proofs.YtcbknemdidehlaaGreatDoor.Ab
open Go.RowKit
set_option linter.unusedVariables false
set_option linter.unusedSimpArgs false
def msk (acc : List Nat) (o : Oper) : Nat := o.after.toList.foldl (fun m e => match Region.binds .any e with | true => m ||| 2 ^ e.on ||| (at? acc e.on).getD 0 | false => m) 0
def msks : List Oper → List Nat → List Nat
 | [], acc => acc
 | o :: os, acc => msks os (acc ++ [msk acc o])
def tmpOf : Operand → Option Tmp
 | .tmp t => some t
 | _ => none
def nms (ops : Array Oper) (o : Oper) : List Tmp :=
 o.dst.toList ++ o.op.operands.toList.filterMap tmpOf ++ (match o.guard with | some (j, _) => ((ops[j]?).bind (·.dst)).toList | none => [])
def isStore : Op → Bool
 | .store _ _ _ => true
 | .mapUpdate _ _ _ _ => true
 | .mapEntry _ _ _ => true
 | .entryStore _ _ _ _ => true
 | .call { callee := .builtin .delete, .. } => true
 | .call { callee := .builtin .append, .. } => true
 | _ => false
def hasDst (o : Oper) (l : List Tmp) : Bool := match o.dst with | some t => l.any (Nat.beq t) | none => false
def boundS (ops : Array Oper) (x y : Oper) : Bool := hasDst x (nms ops y) || hasDst y (nms ops x)
def quietC (P : Program) (C : List Nat) (i : Nat) (o : Oper) : Bool := quiet P o.op || C.any (Nat.beq i)
def boundO (P : Program) (C : List Nat) (i : Nat) (x : Oper) (j : Nat) (y : Oper) : Bool := (!quietC P C i x && !quietC P C j y) || (isStore x.op && !(looks y.op).isEmpty) || (isStore y.op && !(looks x.op).isEmpty)
def exempt (P : Program) (L : List (Nat × Nat)) (i : Nat) (x : Oper) (j : Nat) (y : Oper) : Bool :=
 (L.any fun p => Nat.beq i p.1 && Nat.beq j p.2) && ((isStore x.op && quiet P y.op) || (quiet P x.op && isStore y.op))
def pairsOk (P : Program) (ops : Array Oper) (C : List Nat) (L : List (Nat × Nat)) : List (Oper × Nat) → List (Oper × Nat) → Bool
 | _, [] => true
 | acc, (y, m) :: l => (acc.zipIdx.all fun ((x, _), i) => m.testBit i || (!boundS ops x y && (!boundO P C i x acc.length y || exempt P L i x acc.length y))) && pairsOk P ops C L (acc ++ [(y, m)]) l
def lastOk (ops : Array Oper) (i : Nat) (o : Oper) : Bool :=
 o.op.operands.toList.all fun x => match x with | .tmp t => ((ops.toList.drop i).all fun p => match p.dst with | some d => !Nat.beq d t | none => true) | _ => true
def lastD (ops : Array Oper) (i : Nat) (o : Oper) : Bool :=
 match o.dst with | some t => ((ops.toList.drop (i + 1)).all fun p => match p.dst with | some d => !Nat.beq d t | none => true) | none => false
def drawOk (P : Program) (ops : Array Oper) (C : List Nat) (L : List (Nat × Nat)) : Bool :=
 ops.toList.all (fun o => drawable o.op) && (ops.toList.zipIdx.all fun (o, i) => o.after.toList.all fun e => !Region.binds .any e || Nat.blt e.on i) && pairsOk P ops C L [] (ops.toList.zip (msks ops.toList [])) &&
 (C.all fun i => match at? ops.toList i with | some o => mild o.op && lastOk ops i o && lastD ops i o | none => true) &&
 (L.all fun p => (match at? ops.toList p.1 with | some o => lastOk ops p.1 o | none => true) && (match at? ops.toList p.2 with | some o => lastOk ops p.2 o | none => true))
theorem foldl_bits (acc : List Nat) (k : Nat) : ∀ (l : List Edge) (m : Nat), (l.foldl (fun m e => match Region.binds .any e with | true => m ||| 2 ^ e.on ||| (at? acc e.on).getD 0 | false => m) m).testBit k = true →
  m.testBit k = true ∨ ∃ e ∈ l, Region.binds .any e = true ∧ (k = e.on ∨ ((at? acc e.on).getD 0).testBit k = true)
 | [], m, h => .inl h
 | e :: l, m, h => by
  simp only [List.foldl_cons] at h
  rcases foldl_bits acc k l _ h with q | ⟨x, hx, q⟩
  ·split at q
   ·rename_i hb
    simp only [Nat.testBit_or, Bool.or_eq_true, Nat.testBit_two_pow, decide_eq_true_eq] at q
    rcases q with (q | q) | q
    ·exact .inl q
    ·exact .inr ⟨e, List.mem_cons_self, hb, .inl q.symm⟩
    ·exact .inr ⟨e, List.mem_cons_self, hb, .inr q⟩
   ·exact .inl q
  ·exact .inr ⟨x, List.mem_cons_of_mem _ hx, q⟩
theorem msk_bits {acc : List Nat} {o : Oper} {k : Nat} (h : (msk acc o).testBit k = true) : ∃ e ∈ o.after.toList, Region.binds .any e = true ∧ (k = e.on ∨ ((at? acc e.on).getD 0).testBit k = true) := by
 rcases foldl_bits acc k _ 0 h with q | q
 ·simp at q
 ·exact q
theorem msks_get : ∀ (os : List Oper) (acc : List Nat), ∃ l, msks os acc = acc ++ l ∧ l.length = os.length ∧ ∀ (i : Nat) o, os[i]? = some o → l[i]? = some (msk (acc ++ l.take i) o)
 | [], acc => ⟨[], by simp [msks], rfl, by simp⟩
 | o :: os, acc => by
  obtain ⟨l, h1, h2, h3⟩ := msks_get os (acc ++ [msk acc o])
  refine ⟨msk acc o :: l, by rw [msks, h1]; simp, by simp [h2], fun i p hp => ?_⟩
  cases i with
  | zero => simp at hp; subst hp; simp
  | succ i =>
   have := h3 i p (by simpa using hp)
   simpa using this
theorem pairsOk_get {P : Program} {ops : Array Oper} {C : List Nat} {L : List (Nat × Nat)} : ∀ (l acc : List (Oper × Nat)), pairsOk P ops C L acc l = true → ∀ (i j : Nat) x m y k, (acc ++ l)[i]? = some (x, m) → (acc ++ l)[j]? = some (y, k) → acc.length ≤ j → i < j →
  k.testBit i = true ∨ (boundS ops x y = false ∧ (boundO P C i x j y = false ∨ exempt P L i x j y = true))
 | [], acc, _, i, j, x, m, y, k, hi, hj, hl, hij => by
  have := (List.getElem?_eq_some_iff.1 hj).1
  simp at this
  omega
 | (z, mz) :: l, acc, h, i, j, x, m, y, k, hi, hj, hl, hij => by
  simp only [pairsOk, Bool.and_eq_true] at h
  rcases Nat.lt_or_ge acc.length j with q | q
  ·refine pairsOk_get l (acc ++ [(z, mz)]) h.2 i j x m y k (by simpa using hi) (by simpa using hj) (by simp; omega) hij
  ·have : j = acc.length := by omega
   subst this
   rw [List.getElem?_append_right (Nat.le_refl _), Nat.sub_self] at hj
   simp at hj
   obtain ⟨rfl, rfl⟩ := hj
   rw [List.getElem?_append_left hij] at hi
   have := List.all_eq_true.1 h.1 ((x, m), i) (by
    rw [List.mem_iff_getElem?]
    exact ⟨i, by simp [List.getElem?_zipIdx, hi]⟩)
   simpa using this
section
variable {P : Program} {w0 : Base} {m0 : Mem} {N : Nat} {m : Mem} {ι : List Blk} {e : Env} {s t : List O} {a : Act} {w : World} {o : Oper} {K : V → List O → Prop}
def ext (s t : List O) : Prop := ∀ (i : Nat) o, s[i]? = some o → ∃ o', t[i]? = some o' ∧ o'.ro = o.ro
theorem ext.refl (s : List O) : ext s s := fun i o h => ⟨o, h, rfl⟩
theorem ext.trans {a b c : List O} (h : ext a b) (k : ext b c) : ext a c := fun i o ho => by
 obtain ⟨o1, h1, e1⟩ := h i o ho
 obtain ⟨o2, h2, e2⟩ := k i o1 h1
 exact ⟨o2, h2, e2.trans e1⟩
theorem ext.agr (h : ext s t) : agr s t ∧ agr t s :=
 ⟨fun i o o' h1 h2 => by
  obtain ⟨o1, h3, e1⟩ := h i o h1
  rw [h3] at h2
  obtain rfl := Option.some.inj h2
  exact e1.symm, fun i o o' h1 h2 => by
  obtain ⟨o1, h3, e1⟩ := h i o' h2
  rw [h3] at h1
  obtain rfl := Option.some.inj h1
  exact e1⟩
theorem ext_append (s t : List O) : ext s (s ++ t) := fun i o h => ⟨o, by rw [List.getElem?_append_left (List.getElem?_eq_some_iff.1 h).1]; exact h, rfl⟩
theorem ext_mark (s : List O) (S : List Nat) : ext s (mark s S) := fun i o h => ⟨if i ∈ S then o.ro else o, by rw [mark_get, h]; rfl, by split; exact O.ro_ro o; rfl⟩
theorem opK_ext (hd : drawable o.op = true) (hs : isStore o.op = false) (hq : quiet P o.op = false) (h : opK P false e s o K) : opK P false e s o fun v t => K v t ∧ ext s t := by
 cases ho : o.op <;> rw [ho] at hd hs hq <;> try (first | (simp [drawable] at hd; done) | (simp [quiet] at hq; done) | (simp [isStore] at hs; done))
 case alloc t =>
  simp only [opK, ho, litK_eq] at h ⊢
  split at h
  ·exact ⟨h, ext_append _ _⟩
  ·exact h.elim
 case box t x =>
  simp only [opK, ho, litK_eq] at h ⊢
  split at h
  ·exact ⟨h, ext_append _ _⟩
  ·exact h.elim
 case buildSlice t n ps =>
  simp only [opK, fR_eq, fV_eq, litK_eq, ho, Bool.false_and] at h ⊢
  split at h
  ·split at h
   ·rename_i h1 h2; (try simp only [h1, h2])
    split at h
    ·rename_i h3 h4 h5 h6
     (try simp only [h3, h4, h5, h6])
     exact ⟨h, ext_mark _ _⟩
    ·exact h.elim
   ·exact h.elim
  ·exact h.elim
 case convert t u x =>
  simp only [opK, ho, Bool.false_and] at h ⊢
  unfold convK at h ⊢
  split at h
  ·rename_i h1 h2; (try simp only [h1, h2]); exact ⟨h, ext.refl _⟩
  ·rename_i h1 h2; (try simp only [h1, h2]); exact ⟨h, ext.refl _⟩
  ·rename_i h1 h2 h3
   (try simp only [h1, h2])
   split at h
   ·rename_i h4
    (try simp only [h4])
    split at h
    ·exact ⟨fun l hl => ⟨h.1 l hl, ext.refl _⟩, h.2⟩
    ·split at h
     ·rename_i h5
      (try simp only [h5])
      exact ⟨fun l hl => ⟨h.1 l hl, ext.refl _⟩, h.2⟩
     ·exact h.elim
    ·exact h.elim
   ·exact h.elim
  ·rename_i h1 h2
   (try simp only [h1, h2])
   split at h
   ·rename_i h4 h5
    (try simp only [h4, h5])
    obtain ⟨h6, h7⟩ := h
    rw [litK_eq] at h7 ⊢
    exact ⟨h6, h7, ext_append _ _⟩
   ·exact h.elim
  ·exact h.elim
 case call c =>
  simp only [opK, ho] at h ⊢
  unfold callK at h ⊢
  split at h
  ·rename_i b hb
   obtain ⟨cl, ar, ts⟩ := c
   simp only at hb
   subst hb
   cases b <;> first | (simp [quiet] at hq; done) | (simp [isStore] at hs; done) | (simp [drawable] at hd; done)
  ·split at h
   ·rename_i g fs cs hev
    simp only [fL_eq (fV_eq 8)] at h
    (try simp only [hev])
    simp only [fL_eq (fV_eq 8)]
    rcases h with ⟨r, hr, hk⟩ | ⟨r, hr, hk⟩ | ⟨r, t, hr, hc, hk⟩
    ·exact .inl ⟨r, hr, fun q => ⟨hk q, ext_mark _ _⟩⟩
    ·exact .inr (.inl ⟨r, hr, hk, ext.refl _⟩)
    ·exact .inr (.inr ⟨r, t, hr, hc, hk, ext_append _ _⟩)
   ·exact h.elim
  ·exact h.elim
theorem St.top (h : St w0 m0 N m ι e s a w) {x : Operand} (hx : okX x = true) {i : Nat} (hi : topId (ev e x) = some i) : ∃ o', s[i]? = some o' := by
 have r := h.at hx
 generalize ev e x = v at r hi
 generalize a.eval x = y at r
 have : ∃ β, ι[i]? = some β := by
  cases v <;> simp [topId] at hi <;> subst hi <;> cases r <;> exact ⟨_, by assumption⟩
 obtain ⟨β, hβ⟩ := this
 have hl := (List.getElem?_eq_some_iff.1 hβ).1
 exact ⟨s[i]'(h.len ▸ hl), List.getElem?_eq_getElem _⟩
theorem okO_ops (hok : okO P N o = true) : ∀ x ∈ o.op.operands.toList, okX x = true := by
 unfold okO at hok
 simp only [Bool.and_eq_true] at hok
 exact List.all_eq_true.1 hok.1.2
theorem looks_mem {p : Op} {x : Operand} (h : x ∈ looks p) : x ∈ p.operands.toList := by
 unfold looks at h
 split at h <;> try simp only [List.mem_singleton, List.not_mem_nil] at h
 ·subst h; simp [Op.operands]
 ·subst h; simp [Op.operands]
 ·subst h; simp [Op.operands]
 ·subst h; simp [Op.operands]
 ·simp only [Op.operands, Call.operands, Array.toList_append, List.mem_append]
  exact .inr h
 ·subst h; simp [Op.operands]
theorem tg_some {k : Nat} (h : tg e o = some k) : isStore o.op = true := by
 unfold tg at h
 cases ho : o.op <;> rw [ho] at h <;> try (first | rfl | (simp at h; done))
 case call c =>
  obtain ⟨cl, ar, ts⟩ := c
  cases cl with
  | builtin b => cases b <;> first | rfl | (simp at h; done)
  | value f => simp at h
  | invoke r n => simp at h
def Kept (e : Env) (o : Oper) (s t : List O) : Prop := ∀ k, tg e o ≠ some k → ∀ x, s[k]? = some x → ∃ y, t[k]? = some y ∧ y.ro = x.ro
theorem ext.kept (h : ext s t) : Kept e o s t := fun k _ x hx => h k x hx
theorem kept_set {id : Nat} {x : O} (ht : tg e o = some id) : Kept e o s (setAt s id x) := fun k hk y hy => ⟨y, by
 rw [setAt_eq, List.getElem?_set_ne (fun q => hk (by rw [ht, q]))]
 exact hy, rfl⟩
theorem appendG_kept {i : TypeInfo} {d : V} {new : List (List V)} (h : appendG P i d new s K) : appendG P i d new s fun v t => K v t ∧ ∀ k, topId d ≠ some k → ∀ x, s[k]? = some x → ∃ y, t[k]? = some y ∧ y.ro = x.ro := by
 have same : ∀ k, topId d ≠ some k → ∀ x, s[k]? = some x → ∃ y, s[k]? = some y ∧ y.ro = x.ro := fun k _ x hx => ⟨x, hx, rfl⟩
 unfold appendG at h ⊢
 split at h
 ·cases hn : new.isEmpty with
  | true =>
   simp only [hn, csplit] at h ⊢
   exact ⟨h, same⟩
  | false =>
   simp only [hn, csplit, litK_eq] at h ⊢
   exact ⟨h.1, h.2.1, h.2.2.1, h.2.2.2, fun k _ x hx => ⟨x, by rw [List.getElem?_append_left (List.getElem?_eq_some_iff.1 hx).1]; exact hx, rfl⟩⟩
 ·rename_i id off len
  split at h
  ·rename_i h1; (try simp only [h1])
   split at h
   ·rename_i h2 h3; (try simp only [h2, h3])
    cases hn : new.isEmpty with
    | true =>
     simp only [hn, csplit] at h ⊢
     exact ⟨h, same⟩
    | false =>
     simp only [hn, csplit, litK_eq] at h ⊢
     refine ⟨h.1, h.2.1, h.2.2.1, h.2.2.2.1, h.2.2.2.2, fun k hk x hx => ⟨x, ?_, rfl⟩⟩
     have hlt := (List.getElem?_eq_some_iff.1 hx).1
     rw [setAt_eq, List.getElem?_append_left (by simpa using hlt), List.getElem?_set_ne (fun q => hk (by rw [← q]; rfl))]
     exact hx
   ·exact h.elim
  ·exact h.elim
 ·exact h.elim
theorem appendK_kept {t u : TypeId} {d y : V} (h : appendK P t u d y s K) : appendK P t u d y s fun v t => K v t ∧ ∀ k, topId d ≠ some k → ∀ x, s[k]? = some x → ∃ y, t[k]? = some y ∧ y.ro = x.ro := by
 have key : ∀ {i : TypeInfo} {new : List (List V)}, (∀ K, appendK P t u d y s K = appendG P i d new s K) → appendK P t u d y s fun v t => K v t ∧ ∀ k, topId d ≠ some k → ∀ x, s[k]? = some x → ∃ y, t[k]? = some y ∧ y.ro = x.ro := by
  intro i new hA
  rw [hA] at h
  rw [hA]
  exact appendG_kept h
 have h0 := h
 unfold appendK at h0
 split at h0
 ·rename_i el h1
  split at h0
  ·rename_i i h2
   split at h0
   ·rename_i z h3
    split at h0
    ·rename_i h4 h5
     split at h0
     ·rename_i e2 xx nw h6; exact key (i := i) (new := nw) fun K => by simp only [appendK, h1, h2, h3, h4, h5, h6]
     ·rename_i e2 id off len h6
      split at h0
      ·rename_i w' sz els h7
       split at h0
       ·rename_i h8; exact key (i := i) (new := (els.drop off).take len) fun K => by simp only [appendK, h1, h2, h3, h4, h5, h6, h7, h8]
       ·exact h0.elim
      ·exact h0.elim
     ·rename_i b h6
      split at h0
      ·rename_i h8; exact key (i := i) (new := b.data.toList.map fun c => [.int .u8 c.toNat]) fun K => by simp only [appendK, h1, h2, h3, h4, h5, h6, h8]
      ·exact h0.elim
     ·exact h0.elim
    ·exact h0.elim
   ·exact h0.elim
  ·exact h0.elim
 ·exact h0.elim
theorem appendG_mono {A B : V → List O → Prop} (hab : ∀ v t, A v t → B v t) {i : TypeInfo} {d : V} {new : List (List V)} (h : appendG P i d new s A) : appendG P i d new s B := by
 unfold appendG at h ⊢
 split at h
 ·cases hn : new.isEmpty with
  | true => simp only [hn, csplit] at h ⊢; exact hab _ _ h
  | false =>
   simp only [hn, csplit, litK_eq] at h ⊢
   exact ⟨h.1, h.2.1, h.2.2.1, hab _ _ h.2.2.2⟩
 ·split at h
  ·rename_i h1; (try simp only [h1])
   split at h
   ·rename_i h2 h3; (try simp only [h2, h3])
    cases hn : new.isEmpty with
    | true => simp only [hn, csplit] at h ⊢; exact hab _ _ h
    | false =>
     simp only [hn, csplit, litK_eq] at h ⊢
     exact ⟨h.1, h.2.1, h.2.2.1, h.2.2.2.1, hab _ _ h.2.2.2.2⟩
   ·exact h.elim
  ·exact h.elim
 ·exact h.elim
theorem appendK_mono {A B : V → List O → Prop} {t u : TypeId} {d y : V} (_ : ∀ v t, A v t → A v t) (hab : ∀ v t, A v t → B v t) (h : appendK P t u d y s A) : appendK P t u d y s B := by
 unfold appendK at h ⊢
 split at h
 ·rename_i el h1
  (try simp only [h1])
  split at h
  ·rename_i i h2
   (try simp only [h2])
   split at h
   ·rename_i z h3
    (try simp only [h3])
    split at h
    ·rename_i h4 h5
     (try simp only [h4, h5])
     split at h
     ·rename_i h6; (try simp only [h6]); exact appendG_mono hab h
     ·rename_i h6
      (try simp only [h6])
      split at h
      ·rename_i h7
       (try simp only [h7])
       split at h
       ·rename_i h8; (try simp only [h8]); exact appendG_mono hab h
       ·exact h.elim
      ·exact h.elim
     ·rename_i h6
      (try simp only [h6])
      split at h
      ·rename_i h8; (try simp only [h8]); exact appendG_mono hab h
      ·exact h.elim
     ·exact h.elim
    ·exact h.elim
   ·exact h.elim
  ·exact h.elim
 ·exact h.elim
theorem opK_store (hs : isStore o.op = true) (h : opK P false e s o K) : opK P false e s o fun v t => K v t ∧ Kept e o s t := by
 cases ho : o.op <;> rw [ho] at hs <;> try (simp [isStore] at hs; done)
 case store t x y =>
  simp only [opK, ho] at h ⊢
  split at h
  ·rename_i id off new n hev hnew hn
   have ht : tg e o = some id := by simp only [tg, ho, hev, topId]
   split at h
   ·rename_i h1; (try simp only [h1])
    split at h
    ·rename_i h2 h3 h4; (try simp only [h2, h3, h4]); exact ⟨h, kept_set ht⟩
    ·exact h.elim
   ·exact h.elim
  ·rename_i id i off new n hev hnew hn
   have ht : tg e o = some id := by simp only [tg, ho, hev, topId]
   split at h
   ·rename_i h1; (try simp only [h1])
    refine ⟨h.1, fun cs hcs => ?_⟩
    have := h.2 cs hcs
    split at this
    ·rename_i h2 h3 h4
     (try simp only [h2, h3, h4])
     exact ⟨this, kept_set ht⟩
    ·exact this.elim
   ·exact h.elim
  ·exact h.elim
 case mapUpdate t x y z =>
  simp only [opK, fR_eq, fV_eq, litK_eq, ho] at h ⊢
  split at h
  ·rename_i kt el id hu hev
   have ht : tg e o = some id := by simp only [tg, ho, hev, topId]
   split at h
   ·rename_i h1 h2; (try simp only [h1, h2])
    refine findK_mono (fun r hr => ?_) _ _ h
    cases r with
    | none => exact ⟨hr.1, hr.2, kept_set ht⟩
    | some r => exact ⟨hr, kept_set ht⟩
   ·exact h.elim
  ·exact h.elim
 case mapEntry t x y =>
  simp only [opK, fR_eq, fV_eq, litK_eq, ho] at h ⊢
  split at h
  ·rename_i kt el id hu hev
   have ht : tg e o = some id := by simp only [tg, ho, hev, topId]
   split at h
   ·rename_i h1 h2 h3; (try simp only [h1, h2, h3])
    refine findK_mono (fun r hr => ?_) _ _ h
    cases r with
    | none => exact ⟨hr.1, hr.2.1, hr.2.2, kept_set ht⟩
    | some r => exact ⟨hr.1, hr.2, (ext.refl _).kept⟩
   ·exact h.elim
  ·exact h.elim
 case entryStore t x y z =>
  simp only [opK, fR_eq, fV_eq, litK_eq, ho] at h ⊢
  split at h
  ·rename_i id k n hev hst
   have ht : tg e o = some id := by simp only [tg, ho, hev, topId]
   split at h
   ·rename_i h1; (try simp only [h1])
    exact ⟨h.1, h.2, kept_set ht⟩
   ·exact h.elim
  ·exact h.elim
 case call c =>
  obtain ⟨cl, ar, ts⟩ := c
  cases cl with
  | builtin b =>
   cases b <;> try (simp [isStore] at hs; done)
   case append =>
    simp only [opK, ho, callK, isClear, Bool.and_false] at h ⊢
    match hl : ar.toList, h with
    | [d, y], h =>
     have ht : ∀ id, topId (ev e d) = some id → tg e o = some id := fun id q => by simp only [tg, ho, hl, q]
     simp only [builtinK, List.map_cons, List.map_nil] at h ⊢
     split at h
     ·rename_i h1 h2; (try simp only [h1, h2])
      exact appendK_mono (fun v t q => q) (fun v t q => ⟨q.1, fun k hk x hx => q.2 k (fun z => hk (ht k z)) x hx⟩) (appendK_kept h)
     ·exact h.elim
    | [], h => exact h.elim
    | [_], h => exact h.elim
    | _ :: _ :: _ :: _, h => exact h.elim
   case delete =>
    simp only [opK, ho, callK, isClear, Bool.and_false] at h ⊢
    match hl : ar.toList, h with
    | [m, k], h =>
     have ht : ∀ id, ev e m = .map id → tg e o = some id := fun id q => by simp only [tg, ho, hl, q, topId]
     simp only [builtinK, List.map_cons, List.map_nil] at h ⊢
     split at h
     ·rename_i h0; (try simp only [h0])
      split at h
      ·rename_i kt el id hu hev
       split at h
       ·rename_i h1 h2; (try simp only [h1, h2])
        refine findK_mono (fun r hr => ?_) _ _ h
        cases r with
        | none => exact ⟨hr, (ext.refl _).kept⟩
        | some r => exact ⟨hr, kept_set (ht id hev)⟩
       ·exact h.elim
      ·exact h.elim
     ·exact h.elim
    | [], h => exact h.elim
    | [_], h => exact h.elim
    | _ :: _ :: _ :: _, h => exact h.elim
  | value f => simp [isStore] at hs
  | invoke r n => simp [isStore] at hs
theorem opK_full (h : St w0 m0 N m ι e s a w) (hok : okO P N o = true) (hd : drawable o.op = true) (hk : opK P false e s o K) :
  opK P false e s o fun v t => K v t ∧ opK P false e s o (fun u t' => u = v ∧ t' = t) ∧ (quiet P o.op = true → t = s) ∧ (mild o.op = true → closedO e o = true → clo 8 v = true → t = s) ∧ Kept e o s t := by
 have h1 := opK_self hd hk
 cases hq : quiet P o.op with
 | true =>
  refine opK_move hq hd (fun x hx i hi => (h.top (okO_ops hok x (looks_mem hx)) hi).imp fun o' ho' => ⟨ho', fun o ho => by rw [ho] at ho'; rw [Option.some.inj ho']⟩) (fun v hv => ?_) h1
  exact ⟨hv.1, hv.2, fun _ => rfl, fun _ _ _ => rfl, (ext.refl s).kept⟩
 | false =>
  cases hs : isStore o.op with
  | false =>
   have h2 := opK_ext hd hs hq h1
   cases hm : mild o.op && closedO e o with
   | true =>
    rw [Bool.and_eq_true] at hm
    have h3 := opM_full hm.1 hm.2 h2
    have : (fun v t => K v t ∧ opK P false e s o (fun u t' => u = v ∧ t' = t) ∧ (false = true → t = s) ∧ (mild o.op = true → closedO e o = true → clo 8 v = true → t = s) ∧ Kept e o s t) = fun v t => ((K v t ∧ opK P false e s o fun u t' => u = v ∧ t' = t) ∧ ext s t) ∧ (clo 8 v = true → t = s) := by
     funext v t
     have htg : ∀ k, tg e o ≠ some k := by
      intro k q
      rw [tg_some q] at hs
      cases hs
     refine propext ⟨fun z => ?_, fun z => ?_⟩
     ·obtain ⟨a, b, _, c, d⟩ := z
      exact ⟨⟨⟨a, b⟩, fun k x hx => d k (htg k) x hx⟩, c hm.1 hm.2⟩
     ·obtain ⟨⟨⟨a, b⟩, c⟩, d⟩ := z
      exact ⟨a, b, (fun q => by cases q), fun _ _ => d, c.kept⟩
    rw [this]
    exact h3
   | false =>
    have : (fun v t => K v t ∧ opK P false e s o (fun u t' => u = v ∧ t' = t) ∧ (false = true → t = s) ∧ (mild o.op = true → closedO e o = true → clo 8 v = true → t = s) ∧ Kept e o s t) = fun v t => (K v t ∧ opK P false e s o fun u t' => u = v ∧ t' = t) ∧ ext s t := by
     funext v t
     have htg : ∀ k, tg e o ≠ some k := by
      intro k q
      rw [tg_some q] at hs
      cases hs
     refine propext ⟨fun z => ?_, fun z => ?_⟩
     ·obtain ⟨a, b, _, _, c⟩ := z
      exact ⟨⟨a, b⟩, fun k x hx => c k (htg k) x hx⟩
     ·obtain ⟨⟨a, b⟩, c⟩ := z
      exact ⟨a, b, (fun q => by cases q), (fun h1 h2 => by rw [h1, h2] at hm; cases hm), c.kept⟩
    rw [this]
    exact h2
  | true =>
   have hm : mild o.op = false := by
    cases ho : o.op <;> rw [ho] at hs <;> try (first | rfl | (simp [isStore] at hs; done))
    case call c =>
     obtain ⟨cl, ar, ts⟩ := c
     cases cl <;> first | rfl | (simp [isStore] at hs; done)
   have h2 := opK_store hs h1
   have : (fun v t => K v t ∧ opK P false e s o (fun u t' => u = v ∧ t' = t) ∧ (false = true → t = s) ∧ (mild o.op = true → closedO e o = true → clo 8 v = true → t = s) ∧ Kept e o s t) = fun v t => (K v t ∧ opK P false e s o fun u t' => u = v ∧ t' = t) ∧ Kept e o s t := by
    funext v t
    simp [hm, and_assoc]
   rw [this]
   exact h2
end
end Go.Proofs.YtcbknemdidehlaaGreatDoor.Ab
namespace Go.Proofs.YtcbknemdidehlaaGreatDoor.Ab
open Go.RowKit
set_option linter.unusedVariables false
set_option linter.unusedSimpArgs false
set_option linter.unusedSectionVars false
def gd (ops : Array Oper) (o : Oper) (e : Env) (rn : Bool) : Prop :=
 match o.guard with
 | none => rn = true
 | some (j, want) => ∃ t, (ops[j]?).bind (·.dst) = some t ∧ ((∃ b, e.get t = .bool b ∧ rn = (b == want)) ∨ (e.get t = .tup [] ∧ rn = false))
structure Stp (P : Program) (ops : Array Oper) (o : Oper) (e : Env) (s : List O) (rn : Bool) (v : V) (e' : Env) (s' : List O) : Prop where
 get : ∀ t, e'.get t = if o.dst = some t then v else e.get t
 guard : gd ops o e rn
 quiet : quiet P o.op = true → s' = s
 mild : mild o.op = true → closedO e o = true → clo 8 v = true → s' = s
 kept : Kept e o s s'
 run : rn = true → opK P false e s o fun u t => u = v ∧ t = s'
 skip : rn = false → v = .tup [] ∧ s' = s
theorem Env.get_put (e : Env) (d : Option Tmp) (v : V) (t : Nat) : (e.put d v).get t = if d = some t then v else e.get t := by
 cases d with
 | none => simp [Env.put]
 | some x =>
  simp only [Env.put, Env.get_set]
  by_cases q : t = x
  ·subst q; simp
  ·rw [if_neg q, if_neg (fun h => q (Option.some.inj h).symm)]
theorem Env.get_say {e : Env} {t : Nat} {b : Bool} (h : e.get t = .bool b) (k : Nat) : (e.set t (.bool b)).get k = e.get k := by
 rw [Env.get_set]
 split
 ·rename_i q; rw [q, h]
 ·rfl
section
variable {P : Program} {w0 : Base} {m0 : Mem} {N : Nat} {m : Mem} {ι : List Blk} {e : Env} {s : List O} {a : Act} {w : World} {o : Oper}
theorem Goes.some {R : Value → World → Prop} (h : Goes P o a w R) : ∃ x w', R x w' := by
 unfold Goes at h
 split at h
 ·exact ⟨_, _, h⟩
 ·exact ⟨_, _, h⟩
 ·obtain ⟨_, _, _, ⟨v, _, hr⟩, _⟩ := h []
  exact ⟨_, _, hr⟩
 ·exact h.elim
theorem ev_say {e : Env} {t : Nat} {b : Bool} (h : e.get t = .bool b) (x : Operand) : ev (e.set t (.bool b)) x = ev e x := by
 cases x <;> simp only [ev]
 exact Env.get_say h _
theorem closedO_ev {e e' : Env} (h : ∀ x, ev e x = ev e' x) : closedO e o = closedO e' o := by
 unfold closedO
 congr 1
 funext x
 rw [h]
theorem tg_ev {e e' : Env} (h : ∀ x, ev e x = ev e' x) : tg e o = tg e' o := by
 have : ev e = ev e' := funext h
 simp only [tg, this]
def Tr (P : Program) (ops : Array Oper) (K : Env → List O → Prop) (os : List Oper) (e : Env) (s : List O) : Prop :=
 ∃ (E : Nat → Env) (S : Nat → List O) (rn : Nat → Bool) (vs : Nat → V), E 0 = e ∧ S 0 = s ∧ K (E os.length) (S os.length) ∧ ∀ i o, os[i]? = some o → Stp P ops o (E i) (S i) (rn i) (vs i) (E (i + 1)) (S (i + 1))
theorem trace {ops : Array Oper} {K : Env → List O → Prop} : ∀ (os : List Oper), (∀ o ∈ os, okO P N o = true ∧ drawable o.op = true) → ∀ (e : Env) (s : List O), (∃ m ι a w, St w0 m0 N m ι e s a w) → opsK P false ops os K e s → Tr P ops K os e s
 | [], _, e, s, _, hk => ⟨fun _ => e, fun _ => s, fun _ => true, fun _ => .undef, rfl, rfl, hk, fun i o h => by simp at h⟩
 | o :: os, hall, e, s, hst, hk => by
  obtain ⟨hok, hd⟩ := hall o List.mem_cons_self
  have ih := trace (ops := ops) (K := K) os (fun x hx => hall x (List.mem_cons_of_mem _ hx))
  have fin : ∀ (r : Bool) (v : V) (e' : Env) (s' : List O), (∃ m ι a w, St w0 m0 N m ι e' s' a w) → opsK P false ops os K e' s' → Stp P ops o e s r v e' s' →  Tr P ops K (o :: os) e s := by
   intro r v e' s' hst' hk' hs
   obtain ⟨E, S, rn, vs, hE, hS, hK, hall⟩ := ih e' s' hst' hk'
   refine ⟨fun i => match i with | 0 => e | i + 1 => E i, fun i => match i with | 0 => s | i + 1 => S i, fun i => match i with | 0 => r | i + 1 => rn i, fun i => match i with | 0 => v | i + 1 => vs i, rfl, rfl, hK, fun i p hp => ?_⟩
   cases i with
   | zero =>
    simp at hp
    subst hp
    show Stp P ops o e s r v (E 0) (S 0)
    rw [hE, hS]
    exact hs
   | succ i => exact hall i p (by simpa using hp)
  have go : ∀ {e1 : Env}, (∃ m ι a w, St w0 m0 N m ι e1 s a w) → (∀ k, e1.get k = e.get k) → (∀ x, ev e1 x = ev e x) → gd ops o e true → (opK P false e1 s o fun v s' => fV 4 v fun v => fL fO s' fun s' => putK e1 o.dst v fun e => opsK P false ops os K e s') → Tr P ops K (o :: os) e s := by
   intro e1 hst hg he hgd hk
   have : (fun v s' => fV 4 v fun v => fL fO s' fun s' => putK e1 o.dst v fun e => opsK P false ops os K e s') = fun v s' => opsK P false ops os K (e1.put o.dst v) s' := by
    funext v s'
    rw [fV_eq, fL_eq fO_eq, putK_eq]
   rw [this] at hk
   obtain ⟨m, ι, a, w, h⟩ := hst
   obtain ⟨x, w', v, s', m', ι', ⟨hk2, hself, hquiet, hmild, hkept⟩, rv, h2⟩ := (opK_sound h hok (opK_full h hok hd hk)).some
   refine fin true v _ s' ⟨m', ι', _, w', h2.put (okO_dst hok) rv⟩ hk2 ⟨fun t => ?_, hgd, hquiet, fun hm hc hv => hmild hm (by rw [closedO_ev he]; exact hc) hv, fun k hk => hkept k (by rw [tg_ev he]; exact hk), fun _ => ?_, fun q => (by cases q)⟩
   ·rw [Env.get_put, hg]
   ·rwa [opK_env (fun x _ => he x) hd] at hself
  have no : ∀ {e1 : Env}, (∃ m ι a w, St w0 m0 N m ι e1 s a w) → (∀ k, e1.get k = e.get k) → gd ops o e false → (putK e1 o.dst (.tup []) fun e => opsK P false ops os K e s) → Tr P ops K (o :: os) e s := by
   intro e1 hst hg hgd hk
   rw [putK_eq] at hk
   obtain ⟨m, ι, a, w, h⟩ := hst
   refine fin false (.tup []) _ s ⟨m, ι, _, w, h.put (okO_dst hok) (Rep.tupL (vs := []) (RepL.nil m ι))⟩ hk ⟨fun t => ?_, hgd, fun _ => rfl, fun _ _ _ => rfl, (ext.refl s).kept, fun q => (by cases q), fun _ => ⟨rfl, rfl⟩⟩
   rw [Env.get_put, hg]
  rw [opsK_cons] at hk
  unfold opsC at hk
  split at hk
  ·rename_i hg
   exact go hst (fun _ => rfl) (fun _ => rfl) (by simp [gd, hg]) hk
  ·rename_i j want hg
   split at hk
   ·rename_i t ht
    split at hk
    ·rename_i b hb
     have hst1 : ∃ m ι a w, St w0 m0 N m ι (e.set t (.bool b)) s a w := by
      obtain ⟨m, ι, a, w, h⟩ := hst
      exact ⟨m, ι, a, w, h.say (hb ▸ h.env t)⟩
     have hgd : gd ops o e (b == want) := by
      simp only [gd, hg]
      exact ⟨t, ht, .inl ⟨b, hb, rfl⟩⟩
     cases want <;> cases b <;> simp only [csplit, setK_eq] at hk
     ·exact go hst1 (Env.get_say hb) (ev_say hb) hgd hk
     ·exact no hst1 (Env.get_say hb) hgd hk
     ·exact no hst1 (Env.get_say hb) hgd hk
     ·exact go hst1 (Env.get_say hb) (ev_say hb) hgd hk
    ·rename_i hb
     exact no hst (fun _ => rfl) (by simp only [gd, hg]; exact ⟨t, ht, .inr ⟨hb, trivial⟩⟩) hk
    ·exact hk.elim
   ·exact hk.elim
theorem store_quiet {P : Program} {p : Op} (h : isStore p = true) : quiet P p = false := by
 cases p <;> try (first | rfl | (simp [isStore] at h; done))
 case call c =>
  obtain ⟨cl, ar, ts⟩ := c
  cases cl with
  | builtin b => cases b <;> first | rfl | (simp [isStore] at h; done)
  | value f => simp [isStore] at h
  | invoke r n => simp [isStore] at h
theorem store_mild {p : Op} (h : isStore p = true) : mild p = false := by
 cases p <;> try (first | rfl | (simp [isStore] at h; done))
 case call c =>
  obtain ⟨cl, ar, ts⟩ := c
  cases cl <;> first | rfl | (simp [isStore] at h; done)
structure Inv (P : Program) (ops : Array Oper) (C ms : List Nat) (E : Nat → Env) (S : Nat → List O) (D : Nat → Prop) (e : Env) (s : List O) : Prop where
 clo : ∀ i k mk, ms[i]? = some mk → mk.testBit k = true → D i → D k
 env : ∀ t, ∃ p, p ≤ ops.size ∧ (∀ j o, ops[j]? = some o → o.dst = some t → (D j ↔ j < p)) ∧ e.get t = (E p).get t
 obj : ∃ q, q ≤ ops.size ∧ (∀ j o, ops[j]? = some o → quietC P C j o = false → (D j ↔ j < q)) ∧ s = S q
def Ent (E : Nat → Env) (i : Nat) (x : Oper) (j : Nat) (y : Oper) : Prop :=
 ∃ t m k m' k', x.op = .mapEntry t m k ∧ y.op = .lookup t m' k' false ∧ ev (E i) m = ev (E j) m' ∧ ev (E i) k = ev (E j) k'
def Apt (P : Program) (E : Nat → Env) (i : Nat) (x : Oper) (j : Nat) (y : Oper) : Prop :=
 isStore x.op = true ∧ quiet P y.op = true ∧ ((∀ z ∈ looks y.op, ∀ k, topId (ev (E j) z) = some k → tg (E i) x ≠ some k) ∨ Ent E i x j y)
structure Txt (P : Program) (ops : Array Oper) (C ms : List Nat) (E : Nat → Env) (S : Nat → List O) (rn : Nat → Bool) (vs : Nat → V) : Prop where
 stp : ∀ i o, ops[i]? = some o → Stp P ops o (E i) (S i) (rn i) (vs i) (E (i + 1)) (S (i + 1))
 cl : ∀ i o, ops[i]? = some o → C.any (Nat.beq i) = true → mild o.op = true ∧ closedO (E i) o = true ∧ clo 8 (vs i) = true
 on : ∀ i o, ops[i]? = some o → ∀ x ∈ o.after.toList, Region.binds .any x = true → x.on < i
 msk : ∀ (i : Nat) (o : Oper), ops[i]? = some o → ∃ mk : Nat, ms[i]? = some mk ∧ ∀ k, mk.testBit k = true → ∃ x ∈ o.after.toList, Region.binds .any x = true ∧ (k = x.on ∨ ∃ mx, ms[x.on]? = some mx ∧ mx.testBit k = true)
 bd : ∀ (i j : Nat) (x y : Oper) (mk : Nat), ops[i]? = some x → ops[j]? = some y → ms[j]? = some mk → i < j → mk.testBit i = true ∨ (boundS ops x y = false ∧ (boundO P C i x j y = false ∨ Apt P E i x j y ∨ Apt P E j y i x))
section
variable {ops : Array Oper} {C ms : List Nat} {E : Nat → Env} {S : Nat → List O} {rn : Nat → Bool} {vs : Nat → V} (hs : Txt P ops C ms E S rn vs) {D : Nat → Prop} {i : Nat}
include hs
theorem Txt.same {i : Nat} {o : Oper} (h : ops[i]? = some o) (hq : quietC P C i o = true) : S (i + 1) = S i := by
 unfold quietC at hq
 rw [Bool.or_eq_true] at hq
 rcases hq with q | q
 ·exact (hs.stp i o h).quiet q
 ·exact (hs.stp i o h).mild (hs.cl i o h q).1 (hs.cl i o h q).2.1 (hs.cl i o h q).2.2
theorem Txt.loud {i : Nat} {o : Oper} (h : ops[i]? = some o) (hq : isStore o.op = true) : quietC P C i o = false := by
 unfold quietC
 cases q : C.any (Nat.beq i)
 ·rw [store_quiet hq]; rfl
 ·have := (hs.cl i o h q).1
  rw [store_mild hq] at this
  cases this
theorem Txt.get_between {t : Nat} {lo : Nat} :
  ∀ (d : Nat), lo + d ≤ ops.size → (∀ j o, ops[j]? = some o → lo ≤ j → j < lo + d → o.dst ≠ some t) → (E (lo + d)).get t = (E lo).get t
 | 0, _, _ => rfl
 | d + 1, hd, hw => by
  have hlt : lo + d < ops.size := by omega
  have ho := Array.getElem?_eq_getElem hlt
  rw [← Nat.add_assoc, (hs.stp _ _ ho).get t, if_neg (hw _ _ ho (by omega) (by omega))]
  exact Txt.get_between d (by omega) fun j o hj h1 h2 => hw j o hj h1 (by omega)
theorem Txt.kept_between {lo k : Nat} :
  ∀ (d : Nat), lo + d ≤ ops.size → (∀ j o, ops[j]? = some o → lo ≤ j → j < lo + d → tg (E j) o ≠ some k) → ∀ x, (S lo)[k]? = some x → ∃ y, (S (lo + d))[k]? = some y ∧ y.ro = x.ro
 | 0, _, _, x, hx => ⟨x, hx, rfl⟩
 | d + 1, hd, hw, x, hx => by
  have hlt : lo + d < ops.size := by omega
  have ho := Array.getElem?_eq_getElem hlt
  obtain ⟨y, hy, h1⟩ := Txt.kept_between d (by omega) (fun j o hj h1 h2 => hw j o hj h1 (by omega)) x hx
  obtain ⟨z, hz, h2⟩ := (hs.stp _ _ ho).kept k (hw _ _ ho (by omega) (by omega)) y hy
  exact ⟨z, hz, h2.trans h1⟩
def seen (P : Program) (kt : TypeId) (k z : V) (ok : Bool) (v : V) : O → Prop
 | .map _ es => findK P kt k es 0 fun r => match r with | some (_, x) => two ok x.2.2 true = v | none => two ok z false = v
 | _ => False
omit hs in
theorem seen_ro {kt : TypeId} {k z v : V} {ok : Bool} {a b : O} (h : a.ro = b.ro) : seen P kt k z ok v a ↔ seen P kt k z ok v b := by
 cases a <;> cases b <;> simp [O.ro] at h <;> first | exact Iff.rfl | (obtain ⟨rfl, rfl⟩ := h; exact Iff.rfl)
theorem Txt.look_between {id : Nat} {kt : TypeId} {k z v : V} {ok : Bool} {lo : Nat} :
  ∀ (d : Nat), lo + d ≤ ops.size → (∀ j o, ops[j]? = some o → lo ≤ j → j < lo + d → tg (E j) o = some id → ∀ a, (S j)[id]? = some a → ∃ b, (S (j + 1))[id]? = some b ∧ (seen P kt k z ok v a ↔ seen P kt k z ok v b)) →
   ∀ a, (S lo)[id]? = some a → ∃ b, (S (lo + d))[id]? = some b ∧ (seen P kt k z ok v a ↔ seen P kt k z ok v b)
 | 0, _, _, a, ha => ⟨a, ha, Iff.rfl⟩
 | d + 1, hd, hw, a, ha => by
  have hlt : lo + d < ops.size := by omega
  have ho := Array.getElem?_eq_getElem hlt
  obtain ⟨y, hy, h1⟩ := Txt.look_between d (by omega) (fun j o hj h1 h2 => hw j o hj h1 (by omega)) a ha
  by_cases q : tg (E (lo + d)) ops[lo + d] = some id
  ·obtain ⟨b, hb, h2⟩ := hw _ _ ho (by omega) (by omega) q y hy
   exact ⟨b, hb, h1.trans h2⟩
  ·obtain ⟨b, hb, h2⟩ := (hs.stp _ _ ho).kept id q y hy
   exact ⟨b, hb, h1.trans (seen_ro h2.symm)⟩
theorem Txt.ent_seen {i j : Nat} {x y : Oper} (hx : ops[i]? = some x) (he : Ent E i x j y) {t kt el : TypeId} {m' k' : Operand} {ok : Bool} (hy : y.op = .lookup t m' k' ok) (hu : P.underlying t = some (.map kt el)) {z v : V} (hz : zeroT P el = some z) {id : Nat} (hm : ev (E j) m' = .map id)
  {a : O} (ha : (S i)[id]? = some a) : ∃ b, (S (i + 1))[id]? = some b ∧ (seen P kt (ev (E j) k') z ok v a ↔ seen P kt (ev (E j) k') z ok v b) := by
 obtain ⟨t1, m1, k1, m2, k2, h1, h2, h3, h4⟩ := he
 rw [hy] at h2
 cases h2
 have hst := hs.stp i x hx
 cases hr : rn i with
 | false => rw [(hst.skip hr).2]; exact ⟨a, ha, Iff.rfl⟩
 | true =>
  have h0 := hst.run hr
  simp only [opK, h1, fV_eq, litK_eq, hu, h3, hm, h4, at?_eq, ha, hz] at h0
  split at h0
  ·rename_i ck es _ e1 e2 e3
   cases e1
   cases e3
   obtain ⟨r, hA, hB, hC⟩ := findK_det _ _ h0
   cases r with
   | some r =>
    obtain ⟨_, _, e4⟩ := hA
    exact ⟨_, by rw [← e4]; exact ha, Iff.rfl⟩
   | none =>
    obtain ⟨_, _, _, e4⟩ := hA
    refine ⟨.map (ck + 1) (es ++ [(ck, ev (E j) k', z)]), ?_, ?_⟩
    ·rw [← e4, setAt_eq, List.getElem?_set, if_pos rfl, if_pos (List.getElem?_eq_some_iff.1 ha).1]
    ·simp only [seen, hB, hC, findK, keyOk_self e2, csplit, two]
  ·exact h0.elim
theorem Txt.same_between {lo : Nat} :
  ∀ (d : Nat), lo + d ≤ ops.size → (∀ j o, ops[j]? = some o → lo ≤ j → j < lo + d → quietC P C j o = true) → S (lo + d) = S lo
 | 0, _, _ => rfl
 | d + 1, hd, hw => by
  have hlt : lo + d < ops.size := by omega
  have ho := Array.getElem?_eq_getElem hlt
  rw [← Nat.add_assoc, hs.same ho (hw _ _ ho (by omega) (by omega))]
  exact Txt.same_between d (by omega) fun j o hj h1 h2 => hw j o hj h1 (by omega)
end
theorem hasDst_iff {o : Oper} {l : List Tmp} {t : Tmp} (h : o.dst = some t) (ht : t ∈ l) : hasDst o l = true := by
 unfold hasDst
 rw [h]
 exact List.any_eq_true.2 ⟨t, ht, by simp⟩
theorem tg_store {e : Env} {o : Oper} {k : Nat} (h : tg e o = some k) : isStore o.op = true := tg_some h
structure Nxt (P : Program) (ops : Array Oper) (C : List Nat) (E : Nat → Env) (D : Nat → Prop) (i : Nat) (o : Oper) : Prop where
 not : ¬ D i
 here : ops[i]? = some o
 preS : ∀ j x, ops[j]? = some x → j < i → boundS ops x o = true → D j
 postS : ∀ j x, ops[j]? = some x → i < j → boundS ops o x = true → ¬ D j
 preO : ∀ j x, ops[j]? = some x → j < i → boundO P C j x i o = true → D j ∨ Apt P E j x i o ∨ Apt P E i o j x
 postO : ∀ j x, ops[j]? = some x → i < j → boundO P C i o j x = true → ¬ D j ∨ Apt P E j x i o ∨ Apt P E i o j x
section
variable {ops : Array Oper} {C ms : List Nat} {E : Nat → Env} {S : Nat → List O} {rn : Nat → Bool} {vs : Nat → V} (hs : Txt P ops C ms E S rn vs) {D : Nat → Prop} {i : Nat}
include hs
theorem Inv.get_at (hi : Inv P ops C ms E S D e s) (hn : Nxt P ops C E D i o) {t : Nat} (ht : t ∈ nms ops o) : e.get t = (E i).get t ∧ ∀ j x, ops[j]? = some x → x.dst = some t → j ≠ i → (D j ↔ j < i) := by
 have hw : ∀ j x, ops[j]? = some x → x.dst = some t → j ≠ i → (D j ↔ j < i) := by
  intro j x hj hx hne
  have hd := hasDst_iff hx ht
  rcases Nat.lt_or_gt_of_ne hne with q | q
  ·exact ⟨fun _ => q, fun _ => hn.preS j x hj q (by simp [boundS, hd])⟩
  ·exact ⟨fun h => (hn.postS j x hj q (by simp [boundS, hd]) h).elim, fun h => by omega⟩
 refine ⟨?_, hw⟩
 obtain ⟨p, hp, hD, he⟩ := hi.env t
 have hin := (Array.getElem?_eq_some_iff.1 hn.here).1
 rw [he]
 rcases Nat.le_total p i with q | q
 ·obtain ⟨d, rfl⟩ := Nat.le.dest q
  refine (hs.get_between d (by omega) fun j x hj h1 h2 hx => ?_).symm
  have := (hw j x hj hx (by omega)).2 h2
  have := (hD j x hj hx).1 this
  omega
 ·obtain ⟨d, rfl⟩ := Nat.le.dest q
  refine hs.get_between d (by omega) fun j x hj h1 h2 hx => ?_
  have h3 := (hD j x hj hx).2 h2
  by_cases hne : j = i
  ·subst hne; exact hn.not h3
  ·have := (hw j x hj hx hne).1 h3
   omega
theorem Nxt.order (hn : Nxt P ops C E D i o) (hq : quietC P C i o = false) : ∀ j x, ops[j]? = some x → quietC P C j x = false → (D j ↔ j < i) := by
 intro j x hj hx
 have hno : ∀ {a b : Nat} {u v : Oper}, quietC P C b v = false → ¬ Apt P E a u b v := fun h ⟨_, h2, _⟩ => by simp [quietC, h2] at h
 rcases Nat.lt_trichotomy j i with h | h | h
 ·rcases hn.preO j x hj h (by simp [boundO, hq, hx]) with z | z | z
  ·exact ⟨fun _ => h, fun _ => z⟩
  ·exact (hno hq z).elim
  ·exact (hno hx z).elim
 ·subst h
  exact ⟨fun z => (hn.not z).elim, fun z => by omega⟩
 ·rcases hn.postO j x hj h (by simp [boundO, hq, hx]) with z | z | z
  ·exact ⟨fun y => (z y).elim, fun y => by omega⟩
  ·exact (hno hq z).elim
  ·exact (hno hx z).elim
theorem Inv.at_loud (hi : Inv P ops C ms E S D e s) (hn : Nxt P ops C E D i o) (hqu : quietC P C i o = false) : s = S i := by
 have hin := (Array.getElem?_eq_some_iff.1 hn.here).1
 obtain ⟨q, hq, hD, hsq⟩ := hi.obj
 have hord := Nxt.order hs hn hqu
 rw [hsq]
 rcases Nat.le_total q i with z | z
 ·obtain ⟨d, rfl⟩ := Nat.le.dest z
  refine (hs.same_between d (by omega) fun j x hj h1 h2 => ?_).symm
  cases hx : quietC P C j x
  ·have := (hD j x hj hx).1 ((hord j x hj hx).2 h2)
   omega
  ·rfl
 ·obtain ⟨d, rfl⟩ := Nat.le.dest z
  refine hs.same_between d (by omega) fun j x hj h1 h2 => ?_
  cases hx : quietC P C j x
  ·have := (hord j x hj hx).1 ((hD j x hj hx).2 h2)
   omega
  ·rfl
theorem Inv.step {D' : Nat → Prop} (hi : Inv P ops C ms E S D e s) (hn : Nxt P ops C E D i o) (hms : ∀ mk k, ms[i]? = some mk → mk.testBit k = true → D k) (hD' : ∀ j, D' j ↔ (j = i ∨ D j)) {s' : List O} (hs' : quietC P C i o = true → s' = s) (hs2 : quietC P C i o = false → s' = S (i + 1)) :
  Inv P ops C ms E S D' (e.put o.dst (vs i)) s' := by
 have hin := (Array.getElem?_eq_some_iff.1 hn.here).1
 refine ⟨fun j k mk hj hk hd => ?_, fun t => ?_, ?_⟩
 ·rcases (hD' j).1 hd with rfl | hd
  ·exact (hD' k).2 (.inr (hms mk k hj hk))
  ·exact (hD' k).2 (.inr (hi.clo j k mk hj hk hd))
 ·rw [Env.get_put]
  by_cases hd : o.dst = some t
  ·have hw := (hi.get_at hs hn (t := t) (by simp [nms, hd])).2
   refine ⟨i + 1, hin, fun j x hj hx => ?_, ?_⟩
   ·rw [hD']
    by_cases q : j = i
    ·subst q; simp
    ·rw [or_iff_right q, hw j x hj hx q]
     omega
   ·rw [if_pos hd, (hs.stp i o hn.here).get t, if_pos hd]
  ·obtain ⟨p, hp, hD, he⟩ := hi.env t
   refine ⟨p, hp, fun j x hj hx => ?_, by rw [if_neg hd, he]⟩
   have hne : j ≠ i := by
    rintro rfl
    rw [hn.here] at hj
    obtain rfl := Option.some.inj hj
    exact hd hx
   rw [hD']
   have := hD j x hj hx
   simp [hne, this]
 ·obtain ⟨q, hq, hD, hsq⟩ := hi.obj
  cases hqu : quietC P C i o with
  | true =>
   refine ⟨q, hq, fun j x hj hx => ?_, by rw [hs' hqu, hsq]⟩
   have hne : j ≠ i := by
    rintro rfl
    rw [hn.here] at hj
    obtain rfl := Option.some.inj hj
    rw [hqu] at hx
    cases hx
   rw [hD']
   have := hD j x hj hx
   simp [hne, this]
  | false =>
   refine ⟨i + 1, hin, fun j x hj hx => ?_, hs2 hqu⟩
   rw [hD', Nxt.order hs hn hqu j x hj hx]
   omega
theorem Inv.run (h : St w0 m0 N m ι e s a w) (hok : okO P N o = true) (hdr : drawable o.op = true) (hi : Inv P ops C ms E S D e s) (hn : Nxt P ops C E D i o) (hr : rn i = true) :
  opK P false e s o fun v t => v = vs i ∧ (quietC P C i o = true → t = s) ∧ (quietC P C i o = false → t = S (i + 1)) := by
 have hin := (Array.getElem?_eq_some_iff.1 hn.here).1
 have hst := hs.stp i o hn.here
 have hev : ∀ x ∈ o.op.operands.toList, ev e x = ev (E i) x := by
  intro x hx
  cases x with
  | tmp t => exact (hi.get_at hs hn (t := t) (by
    simp only [nms, List.mem_append, List.mem_filterMap]
    exact .inl (.inr ⟨_, hx, rfl⟩))).1
  | const v => rfl
  | global g => rfl
  | func f => rfl
 have h0 := hst.run hr
 rw [← opK_env hev hdr] at h0
 obtain ⟨q, hq, hD, hsq⟩ := hi.obj
 cases hqu : quietC P C i o with
 | true =>
  cases hqs : quiet P o.op with
  | true =>
   by_cases hlk : ∃ t x y ok, o.op = .lookup t x y ok
   ·obtain ⟨t, x, y, ok, hlk⟩ := hlk
    have hSi := hs.same hn.here hqu
    have hex := hev x (by rw [hlk]; simp [Op.operands])
    have hey := hev y (by rw [hlk]; simp [Op.operands])
    simp only [opK, hlk] at h0 ⊢
    split at h0
    ·rename_i kt el hu
     split at h0
     ·rename_i z hz hko
      split at h0
      ·simpa using h0.1
      ·rename_i id hid
       simp only [at?_eq] at h0 ⊢
       have fin : ∀ {a b : O}, (S i)[id]? = some a → (seen P kt (ev (E i) y) z ok (vs i) a ↔ seen P kt (ev (E i) y) z ok (vs i) b) → seen P kt (ev e y) z ok (vs i) b := by
        intro a b ha hab
        rw [hey]
        refine hab.1 ?_
        rw [ha] at h0
        cases a with
        | map ck es =>
         simp only [seen]
         rw [← hey]
         refine findK_mono (fun r hr => ?_) _ _ h0
         cases r <;> exact hr.1
        | _ => exact h0.elim
       have htop : topId (ev e x) = some id := by rw [hid]; rfl
       have hne : (looks o.op).isEmpty = false := by rw [hlk]; rfl
       have hmem : x ∈ looks o.op := by rw [hlk]; simp [looks]
       have hidE : ev (E i) x = .map id := by rw [← hex]; exact hid
       obtain ⟨o', ho'⟩ := h.top (okO_ops hok x (looks_mem hmem)) htop
       rw [hsq] at ho'
       have step : ∀ j p, ops[j]? = some p → tg (E j) p = some id → Apt P E j p i o → ∀ a, (S j)[id]? = some a → ∃ b, (S (j + 1))[id]? = some b ∧ (seen P kt (ev (E i) y) z ok (vs i) a ↔ seen P kt (ev (E i) y) z ok (vs i) b) := by
        intro j p hj htg hap a ha
        rcases hap.2.2 with z2 | z2
        ·exact (z2 x hmem id (by rw [hidE]; rfl) htg).elim
        ·exact hs.ent_seen hj z2 hlk hu hz hidE ha
       rcases Nat.le_total q i with zq | zq
       ·obtain ⟨d, rfl⟩ := Nat.le.dest zq
        obtain ⟨b, hb, hab⟩ := hs.look_between (kt := kt) (k := ev (E (q + d)) y) (z := z) (ok := ok) (v := vs (q + d)) d (by omega) (fun j p hj h1 h2 htg a ha => by
         have hx := tg_store htg
         have hnD : ¬ D j := fun z => by
          have := (hD j p hj (hs.loud hj hx)).1 z
          omega
         rcases hn.preO j p hj h2 (by simp [boundO, hx, hne]) with z2 | z2 | z2
         ·exact (hnD z2).elim
         ·exact step j p hj htg z2 a ha
         ·have := hs.loud hj hx
          simp [quietC, z2.2.1] at this) o' ho'
        rw [hsq, ho']
        have h2 := fin hb hab.symm
        cases o' with
        | map ck es =>
         simp only [seen] at h2
         refine findK_mono (fun r hr => ?_) _ _ h2
         cases r <;> simpa using hr
        | _ => exact h2.elim
       ·obtain ⟨d, rfl⟩ := Nat.le.dest zq
        have hai : ∃ a, (S i)[id]? = some a := by
         cases ha : (S i)[id]? with
         | none => rw [ha] at h0; exact h0.elim
         | some a => exact ⟨a, rfl⟩
        obtain ⟨a, ha⟩ := hai
        obtain ⟨b, hb, hab⟩ := hs.look_between (kt := kt) (k := ev (E i) y) (z := z) (ok := ok) (v := vs i) d (by omega) (fun j p hj h1 h2 htg a ha => by
         have hx := tg_store htg
         have hDj : D j := (hD j p hj (hs.loud hj hx)).2 h2
         have hji : i < j := by
          rcases Nat.lt_or_ge i j with h4 | h4
          ·exact h4
          ·have : j = i := by omega
           subst this
           exact (hn.not hDj).elim
         rcases hn.postO j p hj hji (by simp [boundO, hx, hne]) with z2 | z2 | z2
         ·exact (z2 hDj).elim
         ·exact step j p hj htg z2 a ha
         ·have := hs.loud hj hx
          simp [quietC, z2.2.1] at this) a ha
        rw [hsq, hb]
        have h2 := fin ha hab
        cases b with
        | map ck es =>
         simp only [seen] at h2
         refine findK_mono (fun r hr => ?_) _ _ h2
         cases r <;> simpa using hr
        | _ => exact h2.elim
      ·exact h0.elim
     ·exact h0.elim
    ·exact h0.elim
   ·have noE : ∀ {j p}, ¬ Ent E j p i o := fun ⟨t, _, _, x, y, _, h2, _⟩ => hlk ⟨t, x, y, false, h2⟩
    refine opK_move hqs hdr (fun z hz k hk => ?_) (fun v hv => ?_) h0
    ·obtain ⟨o', ho'⟩ := h.top (okO_ops hok z (looks_mem hz)) hk
     have hne : (looks o.op).isEmpty = false := by cases hl : looks o.op with | nil => rw [hl] at hz; cases hz | cons _ _ => rfl
     refine ⟨o', ho', fun ob hob => ?_⟩
     rw [hev z (looks_mem hz)] at hk
     rw [hsq] at ho'
     rcases Nat.le_total q i with zq | zq
     ·obtain ⟨d, rfl⟩ := Nat.le.dest zq
      obtain ⟨y, hy, hro⟩ := hs.kept_between d (by omega) (fun j x hj h1 h2 htg => by
       have hx := tg_store htg
       have hnD : ¬ D j := fun z => by
        have := (hD j x hj (hs.loud hj hx)).1 z
        omega
       rcases hn.preO j x hj h2 (by simp [boundO, hx, hne]) with z2 | z2 | z2
       ·exact hnD z2
       ·exact (z2.2.2.resolve_right noE) z hz k hk htg
       ·have := hs.loud hj hx
        simp [quietC, z2.2.1] at this) o' ho'
      rw [hob] at hy
      rw [Option.some.inj hy]
      exact hro
     ·obtain ⟨d, rfl⟩ := Nat.le.dest zq
      obtain ⟨y, hy, hro⟩ := hs.kept_between d (by omega) (fun j x hj h1 h2 htg => by
       have hx := tg_store htg
       have hDj : D j := (hD j x hj (hs.loud hj hx)).2 h2
       have hji : i < j := by
        rcases Nat.lt_or_ge i j with h4 | h4
        ·exact h4
        ·have : j = i := by omega
         subst this
         exact (hn.not hDj).elim
       rcases hn.postO j x hj hji (by simp [boundO, hx, hne]) with z2 | z2 | z2
       ·exact z2 hDj
       ·exact (z2.2.2.resolve_right noE) z hz k hk htg
       ·have := hs.loud hj hx
        simp [quietC, z2.2.1] at this) ob hob
      rw [ho'] at hy
      rw [Option.some.inj hy]
      exact hro.symm
    ·exact ⟨hv.1, fun _ => rfl, fun z => by cases z⟩
  | false =>
   have hC : C.any (Nat.beq i) = true := by simpa [quietC, hqs] using hqu
   obtain ⟨hm, hc, hcv⟩ := hs.cl i o hn.here hC
   have hc' : closedO e o = true := by
    refine List.all_eq_true.2 fun x hx => ?_
    rw [hev x hx]
    exact List.all_eq_true.1 hc x hx
   have h1 := opM_move (s' := s) hm hc' (fun u t q => by rw [q.1]; exact hcv) h0
   have : (fun v t => v = vs i ∧ (true = true → t = s) ∧ (true = false → t = S (i + 1))) = fun v t => t = s ∧ v = vs i ∧ S i = S (i + 1) := by
    funext v t
    have := hst.mild hm hc hcv
    simp [this, and_comm]
   rw [this]
   exact h1
 | false =>
  have hsame := hi.at_loud hs hn hqu
  have : (fun v t => v = vs i ∧ (false = true → t = s) ∧ (false = false → t = S (i + 1))) = fun v t => v = vs i ∧ t = S (i + 1) := by
   funext v t
   simp
  rw [this, hsame]
  exact h0
end
theorem St.env_eq {e' : Env} (h : St w0 m0 N m ι e s a w) (he : ∀ t, e.get t = e'.get t) : St w0 m0 N m ι e' s a w := { h with env := fun t => by rw [← he t]; exact h.env t }
theorem draw_main {ops : Array Oper} {C ms : List Nat} {E : Nat → Env} {S : Nat → List O} {rn : Nat → Bool} {vs : Nat → V} (hs : Txt P ops C ms E S rn vs)
  (hall : ∀ o ∈ ops.toList, okO P N o = true ∧ drawable o.op = true)
  {Q : Exit → Act → World → Prop} (hQ : ∀ m ι a w, St w0 m0 N m ι (E ops.size) (S ops.size) a w → Q .normal a w) :
  ∀ (fuel : Nat) (U : List Nat) (L : Array Bool) (e : Env) (s : List O) (m : Mem) (ι : List Blk) (a : Act) (w : World), L.size = ops.size → U.length ≤ fuel → (∀ j, j < ops.size → L.getD j true = false → j ∈ U) →
   St w0 m0 N m ι e s a w → Inv P ops C ms E S (fun j => L.getD j true = true) e s → wpAny P .any ops Q fuel L a w := by
 have done : ∀ (L : Array Bool) (e : Env) (s : List O) (m : Mem) (ι : List Blk) (a : Act) (w : World), L.size = ops.size → St w0 m0 N m ι e s a w → Inv P ops C ms E S (fun j => L.getD j true = true) e s → (∀ j, j < ops.size → L.getD j true = true) → Q .normal a w := by
  intro L e s m ι a w hL h hi hd
  obtain ⟨q, hq, hD, hsq⟩ := hi.obj
  have hsS : s = S ops.size := by
   rw [hsq]
   obtain ⟨d, hd2⟩ := Nat.le.dest hq
   rw [← hd2]
   refine (hs.same_between d (by omega) fun j x hj h1 h2 => ?_).symm
   cases hx : quietC P C j x
   ·have := (hD j x hj hx).1 (hd j (by omega))
    omega
   ·rfl
  subst hsS
  refine hQ m ι a w (h.env_eq fun t => ?_)
  obtain ⟨p, hp, hD, he⟩ := hi.env t
  rw [he]
  obtain ⟨d, hd2⟩ := Nat.le.dest hp
  rw [← hd2]
  refine (hs.get_between d (by omega) fun j x hj h1 h2 hx => ?_).symm
  have := (hD j x hj hx).1 (hd j (by omega))
  omega
 have least : ∀ (L : Array Bool), L.size = ops.size → Region.ready .any ops L = [] → ∀ j, j < ops.size → L.getD j true = true := by
  intro L hL hr j
  induction j using Nat.strongRecOn with
  | _ j ih =>
   intro hj
   cases hLj : L.getD j true
   ·have ho := Array.getElem?_eq_getElem hj
    have : j ∈ Region.ready .any ops L := by
     rw [mem_ready]
     refine ⟨hLj, _, ho, fun x hx hbx => ?_⟩
     have hlt := hs.on j _ ho x (by simpa using hx) hbx
     have := ih x.on hlt (by omega)
     have hsz : x.on < L.size := by omega
     simpa [hsz] using this
    rw [hr] at this
    cases this
   ·rfl
 intro fuel
 induction fuel with
 | zero =>
  intro U L e s m ι a w hL hU hcov h hi
  have hU0 : U = [] := List.eq_nil_of_length_eq_zero (by omega)
  subst hU0
  have hall : ∀ j, j < ops.size → L.getD j true = true := fun j hj => by
   cases q : L.getD j true
   ·exact absurd (hcov j hj q) (by simp)
   ·rfl
  refine ⟨?_, done L e s m ι a w hL h hi hall⟩
  rw [List.eq_nil_iff_forall_not_mem]
  intro j hj
  rw [mem_ready] at hj
  obtain ⟨h0, o, ho, _⟩ := hj
  rw [hall j (Array.getElem?_eq_some_iff.1 ho).1] at h0
  cases h0
 | succ fuel ih =>
  intro U L e s m ι a w hL hU hcov h hi
  refine ⟨fun hr => done L e s m ι a w hL h hi (least L hL hr), fun i hir => ?_⟩
  rw [mem_ready] at hir
  obtain ⟨hLi, o, ho, hpre⟩ := hir
  have hin := (Array.getElem?_eq_some_iff.1 ho).1
  obtain ⟨hok, hdr⟩ := hall o (by rw [Array.mem_toList_iff]; exact Array.mem_of_getElem? ho)
  have hD : ∀ k, k < ops.size → L.getD k false = true → L.getD k true = true := fun k hk hq => by
   have : k < L.size := by omega
   simpa [this] using hq
  have hbit : ∀ mk k, ms[i]? = some mk → mk.testBit k = true → L.getD k true = true := by
   intro mk k hmk hk
   obtain ⟨mk', h1, h2⟩ := hs.msk i o ho
   rw [hmk] at h1
   obtain rfl := Option.some.inj h1
   obtain ⟨x, hx, hbx, h3⟩ := h2 k hk
   have hxi := hs.on i o ho x hx hbx
   have hxd := hD x.on (by omega) (hpre x (by simpa using hx) hbx)
   rcases h3 with rfl | ⟨mx, h4, h5⟩
   ·exact hxd
   ·exact hi.clo x.on k mx h4 h5 hxd
  have hbit2 : ∀ j mk, ms[j]? = some mk → mk.testBit i = true → ¬ (L.getD j true = true) := by
   intro j mk hmk hk hdj
   have := hi.clo j i mk hmk hk hdj
   simp only [hLi] at this
   cases this
  have hn : Nxt P ops C E (fun j => L.getD j true = true) i o := by
   refine ⟨by simp only [hLi]; decide, ho, fun j x hj hji hbd => ?_, fun j x hj hji hbd => ?_, fun j x hj hji hbd => ?_, fun j x hj hji hbd => ?_⟩
   ·obtain ⟨mk, h1, _⟩ := hs.msk i o ho
    rcases hs.bd j i x o mk hj ho h1 hji with z | z
    ·exact hbit mk j h1 z
    ·rw [z.1] at hbd; cases hbd
   ·obtain ⟨mk, h1, _⟩ := hs.msk j x hj
    rcases hs.bd i j o x mk ho hj h1 hji with z | z
    ·exact hbit2 j mk h1 z
    ·rw [z.1] at hbd; cases hbd
   ·obtain ⟨mk, h1, _⟩ := hs.msk i o ho
    rcases hs.bd j i x o mk hj ho h1 hji with z | ⟨_, z | z⟩
    ·exact .inl (hbit mk j h1 z)
    ·rw [z] at hbd; cases hbd
    ·exact .inr z
   ·obtain ⟨mk, h1, _⟩ := hs.msk j x hj
    rcases hs.bd i j o x mk ho hj h1 hji with z | ⟨_, z | z⟩
    ·exact .inl (hbit2 j mk h1 z)
    ·rw [z] at hbd; cases hbd
    ·exact .inr z.symm
  have hD' : ∀ j, (L.setIfInBounds i true).getD j true = true ↔ (j = i ∨ L.getD j true = true) := by
   intro j
   by_cases q : j = i
   ·subst q
    have : j < L.size := by omega
    simp [this]
   ·rw [getD_set_ne true (fun z => q z.symm)]
    simp [q]
  have go : ∀ {e' : Env} {s' : List O} {m' : Mem} {ι' : List Blk} {a' : Act} {w' : World}, St w0 m0 N m' ι' e' s' a' w' → Inv P ops C ms E S (fun j => (L.setIfInBounds i true).getD j true = true) e' s' → wpAny P .any ops Q fuel (L.setIfInBounds i true) a' w' := by
   intro e' s' m' ι' a' w' h' hi'
   have hiU := hcov i hin hLi
   refine ih (U.erase i) _ e' s' m' ι' a' w' (by simpa using hL) (by rw [List.length_erase_of_mem hiU]; omega) (fun j hj hf => ?_) h' hi'
   have hne : j ≠ i := by
    rintro rfl
    have := (hD' j).2 (.inl rfl)
    rw [this] at hf
    cases hf
   rw [getD_set_ne true (fun z => hne z.symm)] at hf
   exact (List.mem_erase_of_ne hne).2 (hcov j hj hf)
  unfold wpOp
  simp only [ho]
  have hst := hs.stp i o ho
  have hgd := hst.guard
  have hwant : Region.wanted o (yielded ops a.tmps) = rn i := by
   unfold gd at hgd
   split at hgd
   ·rename_i hg
    rw [hgd]
    simp [Region.wanted, hg]
   ·rename_i j want hg
    obtain ⟨t, ht, hc⟩ := hgd
    have he := (hi.get_at hs hn (t := t) (by simp [nms, hg, ht])).1
    rcases hc with ⟨b, hb1, hb2⟩ | ⟨hb1, hb2⟩
    ·rw [hb2]; exact wanted_bool h hg ht (he.trans hb1)
    ·rw [hb2]; exact wanted_skip h hg ht (he.trans hb1)
  rw [hwant]
  cases hr : rn i with
  | true =>
   rw [if_pos rfl]
   refine .inl (Goes.wp ((opK_sound h hok (hi.run hs h hok hdr hn hr)).mono ?_))
   rintro x w' ⟨v, s', m', ι', ⟨hv, hq1, hq2⟩, rv, h2⟩
   subst hv
   exact go (h2.put (okO_dst hok) rv) (hi.step hs hn hbit hD' hq1 hq2)
  | false =>
   rw [if_neg (by simp)]
   obtain ⟨hv, hss⟩ := hst.skip hr
   have h2 := h.put (okO_dst hok) (d := o.dst) (v := .tup []) (x := undef) (Rep.tupL (vs := []) (RepL.nil m ι))
   rw [← hv] at h2
   refine go h2 (hi.step hs hn hbit hD' (fun _ => rfl) fun hqu => ?_)
   rw [hss]
   exact hi.at_loud hs hn hqu
theorem draw_sound {ops : Array Oper} {C : List Nat} {L : List (Nat × Nat)} (hall : ∀ o ∈ ops.toList, okO P N o = true) (hd : drawOk P ops C L = true) {K : Env → List O → Prop} {Q : Exit → Act → World → Prop} (hQ : ∀ e s m ι a w, St w0 m0 N m ι e s a w → K e s → Q .normal a w)
  (h : St w0 m0 N m ι e s a w) (hk : opsK P false ops ops.toList (fun e s => drawDue ops C L e = true ∧ K e s) e s) : wpAny P .any ops Q ops.size (Array.replicate ops.size false) a { w with drawn := w.drawn + 1 } := by
 unfold drawOk at hd
 simp only [Bool.and_eq_true] at hd
 obtain ⟨⟨⟨⟨hd1, hd2⟩, hd3⟩, hd4⟩, hd5⟩ := hd
 have hall2 : ∀ o ∈ ops.toList, okO P N o = true ∧ drawable o.op = true := fun o ho => ⟨hall o ho, List.all_eq_true.1 hd1 o ho⟩
 obtain ⟨E, S, rn, vs, hE, hS, ⟨hdue, hK⟩, hs⟩ := trace ops.toList hall2 e s ⟨m, ι, a, w, h⟩ hk
 rw [Array.length_toList] at hK hdue
 have hs' : ∀ i o, ops[i]? = some o → Stp P ops o (E i) (S i) (rn i) (vs i) (E (i + 1)) (S (i + 1)) := fun i o ho => hs i o (by simpa using ho)
 have hon : ∀ i o, ops[i]? = some o → ∀ x ∈ o.after.toList, Region.binds .any x = true → x.on < i := by
  intro i o ho x hx hbx
  have := List.all_eq_true.1 hd2 (o, i) (by
   rw [List.mem_iff_getElem?]
   exact ⟨i, by simp [List.getElem?_zipIdx, ho]⟩)
  have := List.all_eq_true.1 this x hx
  simp only [hbx, Bool.not_true, Bool.false_or] at this
  exact Nat.lt_of_lt_of_le (Nat.lt_succ_self _) (Nat.le_of_ble_eq_true this)
 have hlast : ∀ i o, ops[i]? = some o → lastOk ops i o = true → ∀ x ∈ o.op.operands.toList, ev (E ops.size) x = ev (E i) x := by
  intro i o ho hl x hx
  have := List.all_eq_true.1 hl x hx
  cases x with
  | tmp t =>
   simp only at this
   have hin := (Array.getElem?_eq_some_iff.1 ho).1
   have key : ∀ d, i + d ≤ ops.size → (E (i + d)).get t = (E i).get t := by
    intro d
    induction d with
    | zero => intro _; rfl
    | succ d ih =>
     intro hd
     have hlt : i + d < ops.size := by omega
     have ho2 := Array.getElem?_eq_getElem hlt
     rw [← Nat.add_assoc, (hs' _ _ ho2).get t, if_neg, ih (by omega)]
     intro hdst
     have := List.all_eq_true.1 this (ops[i + d]) (by
      rw [List.mem_iff_getElem?]
      exact ⟨d, by simp [List.getElem?_drop, ho2]⟩)
     rw [hdst] at this
     simp at this
   have := key (ops.size - i) (by omega)
   rw [show i + (ops.size - i) = ops.size by omega] at this
   exact this
  | const v => rfl
  | global g => rfl
  | func f => rfl
 unfold drawDue at hdue
 simp only [Bool.and_eq_true] at hdue
 have hcl : ∀ i o, ops[i]? = some o → C.any (Nat.beq i) = true → mild o.op = true ∧ closedO (E i) o = true ∧ clo 8 (vs i) = true := by
  intro i o ho hC
  obtain ⟨j, hj, hij⟩ := List.any_eq_true.1 hC
  obtain rfl := Nat.eq_of_beq_eq_true hij
  have ho' : at? ops.toList i = some o := by rw [at?_eq]; simpa using ho
  have h1 := List.all_eq_true.1 hd4 i hj
  have h2 := List.all_eq_true.1 hdue.1 i hj
  rw [ho'] at h1 h2
  simp only [Bool.and_eq_true] at h1 h2
  refine ⟨h1.1.1, List.all_eq_true.2 fun x hx => ?_, ?_⟩
  ·rw [← hlast i o ho h1.1.2 x hx]
   exact List.all_eq_true.1 h2.1 x hx
  ·have h3 := h1.2
   have h4 := h2.2
   unfold lastD at h3
   cases hd : o.dst with
   | none => rw [hd] at h4; cases h4
   | some t =>
    rw [hd] at h3 h4
    simp only at h3 h4
    have hin := (Array.getElem?_eq_some_iff.1 ho).1
    have key : ∀ d, i + 1 + d ≤ ops.size → (E (i + 1 + d)).get t = (E (i + 1)).get t := by
     intro d
     induction d with
     | zero => intro _; rfl
     | succ d ih =>
      intro hd
      have hlt : i + 1 + d < ops.size := by omega
      have ho2 := Array.getElem?_eq_getElem hlt
      rw [← Nat.add_assoc, (hs' _ _ ho2).get t, if_neg, ih (by omega)]
      intro hdst
      have := List.all_eq_true.1 h3 (ops[i + 1 + d]) (by
       rw [List.mem_iff_getElem?]
       exact ⟨d, by simp [List.getElem?_drop, ho2]⟩)
      rw [hdst] at this
      simp at this
    have hk2 := key (ops.size - (i + 1)) (by omega)
    rw [show i + 1 + (ops.size - (i + 1)) = ops.size by omega] at hk2
    have hk3 := (hs' i o ho).get t
    rw [if_pos hd] at hk3
    rw [hk2, hk3] at h4
    exact h4
 obtain ⟨l, h1, h2, h3⟩ := msks_get ops.toList []
 rw [List.nil_append] at h1
 have hms : ∀ (i : Nat) (o : Oper), ops[i]? = some o → ∃ mk : Nat, l[i]? = some mk ∧ ∀ k, mk.testBit k = true → ∃ x ∈ o.after.toList, Region.binds .any x = true ∧ (k = x.on ∨ ∃ mx, l[x.on]? = some mx ∧ mx.testBit k = true) := by
  intro i o ho
  have h4 := h3 i o (by simpa using ho)
  refine ⟨_, h4, fun k hk => ?_⟩
  obtain ⟨x, hx, hbx, hor⟩ := msk_bits hk
  refine ⟨x, hx, hbx, hor.imp id fun hbit => ?_⟩
  have hxi := hon i o ho x hx hbx
  rw [List.nil_append, at?_eq, List.getElem?_take, if_pos hxi] at hbit
  cases hlx : l[x.on]? with
  | none => rw [hlx] at hbit; simp at hbit
  | some mx => rw [hlx] at hbit; exact ⟨mx, rfl, by simpa using hbit⟩
 have hapt : ∀ (i j : Nat) (x y : Oper), ops[i]? = some x → ops[j]? = some y → lastOk ops i x = true → lastOk ops j y = true → isStore x.op = true → quiet P y.op = true → apartB (E ops.size) x y = true → Apt P E i x j y := by
  intro i j x y hi hj hli hlj hx hy hap
  refine ⟨hx, hy, .inl fun z hz k hk htg => ?_⟩
  have htg' : tg (E ops.size) x = some k := by
   unfold tg at htg ⊢
   split at htg
   ·rename_i _ a _ hox
    rw [hlast i x hi hli a (by rw [hox]; simp [Op.operands])]
    exact htg
   ·rename_i _ a _ _ hox
    rw [hlast i x hi hli a (by rw [hox]; simp [Op.operands])]
    exact htg
   ·rename_i _ a _ hox
    rw [hlast i x hi hli a (by rw [hox]; simp [Op.operands])]
    exact htg
   ·rename_i _ a _ _ hox
    rw [hlast i x hi hli a (by rw [hox]; simp [Op.operands])]
    exact htg
   ·rename_i args _ hox
    split at htg
    ·rename_i a _ har
     rw [hlast i x hi hli a (by rw [hox]; simp [Op.operands, Call.operands, ← Array.mem_toList_iff, har])]
     exact htg
    ·cases htg
   ·rename_i args _ hox
    split at htg
    ·rename_i a _ har
     rw [hlast i x hi hli a (by rw [hox]; simp [Op.operands, Call.operands, ← Array.mem_toList_iff, har])]
     exact htg
    ·cases htg
   ·cases htg
  unfold apartB at hap
  rw [htg'] at hap
  have := List.all_eq_true.1 hap z hz
  rw [hlast j y hj hlj z (looks_mem hz), hk] at this
  simp at this
 have hent : ∀ (i j : Nat) (x y : Oper), ops[i]? = some x → ops[j]? = some y → lastOk ops i x = true → lastOk ops j y = true → isStore x.op = true → quiet P y.op = true → entLook x.op y.op = true → Apt P E i x j y := by
  intro i j x y hi hj hli hlj hx hy he
  refine ⟨hx, hy, .inr ?_⟩
  unfold entLook at he
  split at he
  ·rename_i t m k u n l h1 h2
   simp only [Bool.and_eq_true] at he
   obtain ⟨⟨q1, q2⟩, q3⟩ := he
   have sx : ∀ {a b : Operand}, sameX a b = true → a = b := by
    intro a b q
    unfold sameX at q
    split at q
    ·rw [Nat.eq_of_beq_eq_true q]
    ·cases q
   obtain rfl := Nat.eq_of_beq_eq_true q1
   obtain rfl := sx q2
   obtain rfl := sx q3
   exact ⟨t, m, k, m, k, h1, h2, by rw [← hlast i x hi hli m (by rw [h1]; simp [Op.operands]), ← hlast j y hj hlj m (by rw [h2]; simp [Op.operands])], by rw [← hlast i x hi hli k (by rw [h1]; simp [Op.operands]), ← hlast j y hj hlj k (by rw [h2]; simp [Op.operands])]⟩
  ·cases he
 have hb : ∀ (i j : Nat) (x y : Oper) (mk : Nat), ops[i]? = some x → ops[j]? = some y → l[j]? = some mk → i < j → mk.testBit i = true ∨ (boundS ops x y = false ∧ (boundO P C i x j y = false ∨ Apt P E i x j y ∨ Apt P E j y i x)) := by
  intro i j x y mk hi hj hmk hij
  rw [h1] at hd3
  have hli : i < l.length := by
   rw [h2]
   have := (Array.getElem?_eq_some_iff.1 hi).1
   simpa using this
  rcases pairsOk_get _ [] hd3 i j x (l[i]) y mk (by
   simp only [List.nil_append, List.getElem?_zip_eq_some]
   exact ⟨by simpa using hi, List.getElem?_eq_getElem hli⟩) (by
   simp only [List.nil_append, List.getElem?_zip_eq_some]
   exact ⟨by simpa using hj, hmk⟩) (Nat.zero_le _) hij with z | ⟨z1, z2 | z2⟩
  ·exact .inl z
  ·exact .inr ⟨z1, .inl z2⟩
  ·unfold exempt at z2
   simp only [Bool.and_eq_true, Bool.or_eq_true] at z2
   obtain ⟨z3, z4⟩ := z2
   obtain ⟨p, hp, hpe⟩ := List.any_eq_true.1 z3
   simp only [Bool.and_eq_true] at hpe
   obtain ⟨a', b'⟩ := p
   obtain ⟨hp1, hp2⟩ := hpe
   obtain rfl := Nat.eq_of_beq_eq_true hp1
   obtain rfl := Nat.eq_of_beq_eq_true hp2
   have hi' : at? ops.toList i = some x := by rw [at?_eq]; simpa using hi
   have hj' : at? ops.toList j = some y := by rw [at?_eq]; simpa using hj
   have h5 := List.all_eq_true.1 hd5 _ hp
   have h6 := List.all_eq_true.1 hdue.2 _ hp
   simp only [hi', hj', Bool.and_eq_true, Bool.or_eq_true] at h5 h6
   have ent_kind : ∀ {p q : Op}, entLook p q = true → isStore p = true ∧ quiet P q = true := by
    intro p q he
    unfold entLook at he
    split at he
    ·exact ⟨rfl, rfl⟩
    ·cases he
   rcases h6 with ⟨h6, h7⟩ | h6 | h6
   ·rcases z4 with z4 | z4
    ·exact .inr ⟨z1, .inr (.inl (hapt i j x y hi hj h5.1 h5.2 z4.1 z4.2 h6))⟩
    ·exact .inr ⟨z1, .inr (.inr (hapt j i y x hj hi h5.2 h5.1 z4.2 z4.1 h7))⟩
   ·exact .inr ⟨z1, .inr (.inl (hent i j x y hi hj h5.1 h5.2 (ent_kind h6).1 (ent_kind h6).2 h6))⟩
   ·exact .inr ⟨z1, .inr (.inr (hent j i y x hj hi h5.2 h5.1 (ent_kind h6).1 (ent_kind h6).2 h6))⟩
 refine draw_main ⟨hs', hcl, hon, hms, hb⟩ hall2 (fun m ι a w h => hQ _ _ m ι a w h hK) ops.size (List.range ops.size) _ e s m ι a _ (by simp) (by simp) (fun j hj _ => List.mem_range.2 hj) (h.drew _) ?_
 have hno : ∀ j, j < ops.size → ¬ ((Array.replicate ops.size false).getD j true = true) := by
  intro j hj
  simp [hj]
 refine ⟨fun i k mk hi hk hdi => ?_, fun t => ⟨0, Nat.zero_le _, fun j o hj _ => ⟨fun z => (hno j (Array.getElem?_eq_some_iff.1 hj).1 z).elim, fun z => by omega⟩, by rw [hE]⟩, ⟨0, Nat.zero_le _, fun j o hj _ => ⟨fun z => (hno j (Array.getElem?_eq_some_iff.1 hj).1 z).elim, fun z => by omega⟩, hS.symm⟩⟩
 have hil := (List.getElem?_eq_some_iff.1 hi).1
 rw [h2, Array.length_toList] at hil
 exact (hno i hil hdi).elim
end
end Go.Proofs.YtcbknemdidehlaaGreatDoor.Ab
namespace Go.Proofs.YtcbknemdidehlaaGreatDoor.Ab
open Go.RowKit
set_option linter.unusedVariables false
set_option linter.unusedSimpArgs false
theorem wp_loop2 {σ : Type} {P : Program} {Q : Exit → Act → World → Prop} {c : Code} {a : Act} {w : World} (I : σ → Act → World → Prop) (μ : σ → Nat) (x0 : σ) (h0 : I x0 a w)
  (round : ∀ x a w, I x a w → c.wp P (Exit.then (fun a' w' => ∃ x', I x' a' w' ∧ μ x' < μ x) Q) a w) : (Code.loop c).wp P Q a w := by
 intro b k cs
 have key : ∀ n x a w, μ x = n → I x a w → ∃ e a' w', Q e a' w' ∧ Arrives P (lone (b.at a (.code c :: .inLoop c :: k)) cs w) b k cs e a' w' := by
  intro n
  induction n using Nat.strongRecOn with
  | _ n ih =>
   intro x a w hn hI
   obtain ⟨e, a1, w1, hq, harr⟩ := round x a w hI b (.inLoop c :: k) cs
   cases e with
   | normal =>
    obtain ⟨x1, hI1, hlt⟩ := hq
    obtain ⟨e2, a2, w2, hq2, harr2⟩ := ih (μ x1) (hn ▸ hlt) x1 a1 w1 rfl hI1
    exact ⟨e2, a2, w2, hq2, .of_steps (Steps.trans harr (.one step_inLoop)) harr2⟩
   | exit id => exact ⟨_, a1, w1, hq, .pass (x := .inLoop c) rfl (fun _ _ => .inl (by simp)) harr⟩
   | goto l => exact ⟨_, a1, w1, hq, .pass (x := .inLoop c) rfl (fun _ _ => .inl (by simp)) harr⟩
   | ret => exact ⟨_, a1, w1, hq, .pass (x := .inLoop c) rfl (fun _ _ => .inl (by simp)) harr⟩
   | panic ch => exact ⟨_, a1, w1, hq, .pass (x := .inLoop c) rfl (fun _ _ => .inl (by simp)) harr⟩
   | outgrown => exact ⟨_, a1, w1, hq, .pass (x := .inLoop c) rfl (fun _ _ => .inl (by simp)) harr⟩
 obtain ⟨e, a', w', hq, harr⟩ := key _ x0 a w rfl h0
 exact ⟨e, a', w', hq, .of_steps (.one step_loop) harr⟩
def okC (P : Program) (N : Nat) (G : List (Nat × List Nat × List (Nat × Nat))) : Code → Bool
 | .region id ops d => ops.toList.all (okO P N) && (match d with | true => (match anyM (gl G id).1 with | true => anyOk ops | false => drawOk P ops (gl G id).1 (gl G id).2) | false => true)
 | .seq a b => okC P N G a && okC P N G b
 | .cond c a b => okX c && okC P N G a && okC P N G b
 | .block _ b => okC P N G b
 | .loop b => okC P N G b
 | _ => true
section
variable {P : Program} {w0 : Base} {m0 : Mem} {N : Nat} {H : Nat → Option (List Nat)} {G : List (Nat × List Nat × List (Nat × Nat))}
def QQ (w0 : Base) (m0 : Mem) (N : Nat) (Q : Ex → Env → List O → Prop) (x : Exit) (a : Act) (w : World) : Prop :=
 ∃ e s m ι, St w0 m0 N m ι e s a w ∧ match x with | .normal => Q .nrm e s | .exit id => Q (.ext id) e s | .ret => Q .rtn e s | _ => False
theorem awp_sound (hP : P.follows .mixedOrders = true) {pn : Nat} (hpn : pn = w0.pin.length) : ∀ (c : Code), okC P N G c = true → ∀ (Q : Ex → Env → List O → Prop) (e : Env) (s : List O), awp pn P H G c Q e s →
  ∀ (m : Mem) (ι : List Blk) (a : Act) (w : World), St w0 m0 N m ι e s a w → c.wp P (QQ w0 m0 N Q) a w
 | .skip, _, Q, e, s, hk, m, ι, a, w, h => wp_skip ⟨e, s, m, ι, h, hk⟩
 | .region id ops d, hok, Q, e, s, hk, m, ι, a, w, h => by
  simp only [okC, Bool.and_eq_true, List.all_eq_true] at hok
  have hQ : ∀ e s m ι a w, St w0 m0 N m ι e s a w → (match H id with | some ks => keepK (fun v => v) e ks fun e => Q .nrm e s | none => Q .nrm e s) → QQ w0 m0 N Q .normal a w := by
   intro e s m ι a w h hk
   split at hk
   ·rename_i ks hks
    rw [keepK_eq] at hk
    exact ⟨_, s, m, ι, h.keep ks, hk⟩
   ·exact ⟨e, s, m, ι, h, hk⟩
  replace hk : cRegion P H G id ops d Q e s := hk
  unfold cRegion at hk
  cases d with
  | false =>
   refine wp_region ?_
   have := opsK_sound hok.1 hQ ops.toList 0 rfl e s m ι a w h hk
   rwa [Array.length_toList, ← List.range_eq_range'] at this
  | true =>
   cases hany : anyM (gl G id).1 with
   | true =>
    simp only [hany] at hok hk
    obtain ⟨J, ⟨hk, hJ⟩⟩ := hk
    refine wp_region_any hP (anyK_sound hok.1 hok.2 (fun e s m ι a w h hk => ?_) (fun c a w hq => by obtain ⟨_, _, _, _, _, hq⟩ := hq; exact hq.elim) ops.size _ _ (Lst.start ops) _ _ _ _ _ _ (h.drew _) hk)
    split at hk
    ·rename_i ks hks
     rw [keepK_eq] at hk
     exact ⟨_, s, m, ι, h.keep ks, hJ _ _ hk⟩
    ·exact ⟨e, s, m, ι, h, hJ _ _ hk⟩
   | false =>
   simp only [hany] at hok hk
   refine wp_region_any hP (draw_sound hok.1 hok.2 hQ h ?_)
   have : (fun e s => drawDue ops (gl G id).1 (gl G id).2 e = true ∧ (match H id with | some ks => keepK (fun v => v) e ks fun e => Q .nrm e s | none => Q .nrm e s)) = fun e s => match drawDue ops (gl G id).1 (gl G id).2 e with
     | true => match H id with | some ks => keepK (fun v => v) e ks fun e => Q .nrm e s | none => Q .nrm e s
     | false => False := by
    funext e s
    cases drawDue ops (gl G id).1 (gl G id).2 e <;> simp
   rw [this]
   exact hk
 | .seq x y, hok, Q, e, s, hk, m, ι, a, w, h => by
  simp only [okC, Bool.and_eq_true] at hok
  replace hk : cSeq (awp pn P H G x) (awp pn P H G y) Q e s := hk
  unfold cSeq at hk
  refine wp_seq (wp_mono (awp_sound hP hpn x hok.1 _ e s hk m ι a w h) ?_)
  rintro x a w ⟨e, s, m, ι, h, hq⟩
  cases x with
  | normal => exact awp_sound hP hpn y hok.2 Q e s hq m ι a w h
  | exit id => exact ⟨e, s, m, ι, h, hq⟩
  | ret => exact ⟨e, s, m, ι, h, hq⟩
  | _ => exact hq.elim
 | .cond c x y, hok, Q, e, s, hk, m, ι, a, w, h => by
  simp only [okC, Bool.and_eq_true] at hok
  replace hk : cCond c (awp pn P H G x) (awp pn P H G y) Q e s := hk
  unfold cCond at hk
  split at hk
  ·rename_i b hb
   have rc := h.at hok.1.1
   rw [hb] at rc
   have hv := rc.bool_inv
   have say : ∀ {F : Env → Prop}, setB e c b F → ∃ e', F e' ∧ St w0 m0 N m ι e' s a w := by
    intro F hF
    unfold setB at hF
    split at hF
    ·rename_i t
     rw [setK_eq] at hF
     refine ⟨_, hF, h.say ?_⟩
     have : a.tmps.getD t undef = .bool b := hv
     rw [this]
     exact .bool _ _
    ·exact ⟨e, hF, h⟩
   cases b
   ·obtain ⟨e', hF, h'⟩ := say hk
    exact wp_cond_false hv (awp_sound hP hpn y hok.2 Q e' s hF m ι a w h')
   ·obtain ⟨e', hF, h'⟩ := say hk
    exact wp_cond_true hv (awp_sound hP hpn x hok.1.2 Q e' s hF m ι a w h')
  ·exact hk.elim
 | .block id x, hok, Q, e, s, hk, m, ι, a, w, h => by
  simp only [okC] at hok
  replace hk : cBlock id (awp pn P H G x) Q e s := hk
  unfold cBlock at hk
  refine wp_block (wp_mono (awp_sound hP hpn x hok _ e s hk m ι a w h) ?_)
  rintro x a w ⟨e, s, m, ι, h, hq⟩
  cases x with
  | normal => exact ⟨e, s, m, ι, h, hq⟩
  | exit id' =>
   simp only [Exit.inBlock]
   simp only at hq
   split at hq
   ·rename_i hb
    rw [if_pos (Nat.eq_of_beq_eq_true hb)]
    exact ⟨e, s, m, ι, h, hq⟩
   ·rename_i hb
    rw [if_neg (fun z => by subst z; simp at hb)]
    exact ⟨e, s, m, ι, h, hq⟩
  | ret => exact ⟨e, s, m, ι, h, hq⟩
  | _ => exact hq.elim
 | .loop x, hok, Q, e, s, hk, m, ι, a, w, h => by
  simp only [okC] at hok
  rcases (show Looped pn (awp pn P H G x) Q e s ∨ (∃ n, Unr (awp pn P H G x) Q n e s) ∨ LoopedN (awp pn P H G x) Q e s ∨ LoopedF pn (awp pn P H G x) Q e s ∨ LoopedG pn (awp pn P H G x) Q e s from hk) with hk | ⟨n, hk⟩ | hk | hk | hk
  rotate_right
  ·obtain ⟨σ, ks, E, S, J, μ, ⟨g, hg, h0⟩, hround⟩ := hk
   rw [keepK_eq, fL_eq fO_eq] at h0
   obtain ⟨x0, he0, hs0, hj0⟩ := h0
   simp only [Bool.and_eq_true] at hg
   have h1 := h.select ks g hg.1 (hpn ▸ hg.2)
   rw [he0, hs0] at h1
   refine wp_loop2 (σ := σ) (fun x a w => ∃ m ι, St w0 m0 N m ι (E x) (S x) a w ∧ J x) μ x0 ⟨m, _, h1, hj0⟩ ?_
   rintro y a w ⟨m, ι, h, hJ⟩
   refine wp_mono (awp_sound hP hpn x hok _ _ _ (hround y hJ) m ι a w h) ?_
   rintro x a w ⟨e, s, m, ι, h, hq⟩
   cases x with
   | normal =>
    simp only [keepK_eq, fL_eq fO_eq] at hq
    obtain ⟨g, hg, z, he, hs, hj, hlt⟩ := hq
    simp only [Bool.and_eq_true] at hg
    have h2 := h.select ks g hg.1 (hpn ▸ hg.2)
    rw [he, hs] at h2
    exact ⟨z, ⟨m, _, h2, hj⟩, hlt⟩
   | exit id => exact ⟨e, s, m, ι, h, hq⟩
   | ret => exact ⟨e, s, m, ι, h, hq⟩
   | _ => exact hq.elim
  rotate_right
  ·obtain ⟨σ, ks, g, E, S, J, μ, hg, h0, hround⟩ := hk
   rw [keepK_eq, fL_eq fO_eq] at h0
   obtain ⟨x0, he0, hs0, hj0⟩ := h0
   simp only [Bool.and_eq_true] at hg
   have h1 := h.fzAll.select ks g hg.1 (hpn ▸ hg.2)
   have he1 : (ks.map fun n => (n, ren 8 g (Env.get (e.map fun p => (p.1, fzV 4 s p.2)) n))) = ks.map fun n => (n, ren 8 g (fzV 4 s (e.get n))) := List.map_congr_left fun n _ => by rw [Env.get_map (fzV 4 s) rfl]
   rw [he1, he0, hs0] at h1
   refine wp_loop2 (σ := σ) (fun x a w => ∃ m ι, St w0 m0 N m ι (E x) (S x) a w ∧ J x) μ x0 ⟨_, _, h1, hj0⟩ ?_
   rintro y a w ⟨m, ι, h, hJ⟩
   refine wp_mono (awp_sound hP hpn x hok _ _ _ (hround y hJ) m ι a w h) ?_
   rintro x a w ⟨e, s, m, ι, h, hq⟩
   cases x with
   | normal =>
    simp only [keepK_eq, fL_eq fO_eq] at hq
    obtain ⟨z, he, hs, hj, hlt⟩ := hq
    have h2 := h.select ks g hg.1 (hpn ▸ hg.2)
    rw [he, hs] at h2
    exact ⟨z, ⟨m, _, h2, hj⟩, hlt⟩
   | exit id => exact ⟨e, s, m, ι, h, hq⟩
   | ret => exact ⟨e, s, m, ι, h, hq⟩
   | _ => exact hq.elim
  rotate_left
  rotate_left
  ·obtain ⟨σ, ks, E, J, μ, h0, hround⟩ := hk
   rw [keepK_eq] at h0
   obtain ⟨x0, he0, hj0⟩ := h0
   have h1 := h.keep ks
   rw [he0] at h1
   refine wp_loop2 (σ := σ) (fun x a w => ∃ s m ι, St w0 m0 N m ι (E x) s a w ∧ J x s) μ x0 ⟨s, m, ι, h1, hj0⟩ ?_
   rintro y a w ⟨s, m, ι, h, hJ⟩
   refine wp_mono (awp_sound hP hpn x hok _ _ _ (hround y s hJ h.mo.wfL) m ι a w h) ?_
   rintro x a w ⟨e, s, m, ι, h, hq⟩
   cases x with
   | normal =>
    simp only [keepK_eq] at hq
    obtain ⟨z, he, hj, hlt⟩ := hq
    have h2 := h.keep ks
    rw [he] at h2
    exact ⟨z, ⟨s, m, ι, h2, hj⟩, hlt⟩
   | exit id => exact ⟨e, s, m, ι, h, hq⟩
   | ret => exact ⟨e, s, m, ι, h, hq⟩
   | _ => exact hq.elim
  rotate_left
  ·refine wp_loop2 (σ := Nat) (fun n a w => ∃ e s m ι, St w0 m0 N m ι e s a w ∧ Unr (awp pn P H G x) Q n e s) id n ⟨e, s, m, ι, h, hk⟩ ?_
   rintro n a w ⟨e, s, m, ι, h, hk⟩
   cases n with
   | zero => exact (show False from hk).elim
   | succ n =>
    have hk : awp pn P H G x (fun y e' s' => match y with | .nrm => Unr (awp pn P H G x) Q n e' s' | .ext i => Q (.ext i) e' s' | .rtn => Q .rtn e' s') e s := hk
    refine wp_mono (awp_sound hP hpn x hok _ _ _ hk m ι a w h) ?_
    rintro y a w ⟨e, s, m, ι, h, hq⟩
    cases y with
    | normal => exact ⟨n, ⟨e, s, m, ι, h, hq⟩, Nat.lt_succ_self n⟩
    | exit id => exact ⟨e, s, m, ι, h, hq⟩
    | ret => exact ⟨e, s, m, ι, h, hq⟩
    | _ => exact hq.elim
  obtain ⟨σ, ks, g, E, S, J, μ, hg, h0, hround⟩ := hk
  rw [keepK_eq, fL_eq fO_eq] at h0
  obtain ⟨x0, he0, hs0, hj0⟩ := h0
  simp only [Bool.and_eq_true] at hg
  have h1 := h.select ks g hg.1 (hpn ▸ hg.2)
  rw [he0, hs0] at h1
  refine wp_loop2 (σ := σ) (fun x a w => ∃ m ι, St w0 m0 N m ι (E x) (S x) a w ∧ J x) μ x0 ⟨m, _, h1, hj0⟩ ?_
  rintro y a w ⟨m, ι, h, hJ⟩
  refine wp_mono (awp_sound hP hpn x hok _ _ _ (hround y hJ) m ι a w h) ?_
  rintro x a w ⟨e, s, m, ι, h, hq⟩
  cases x with
  | normal =>
   simp only [keepK_eq, fL_eq fO_eq] at hq
   obtain ⟨z, he, hs, hj, hlt⟩ := hq
   have h2 := h.select ks g hg.1 (hpn ▸ hg.2)
   rw [he, hs] at h2
   exact ⟨z, ⟨m, _, h2, hj⟩, hlt⟩
  | exit id => exact ⟨e, s, m, ι, h, hq⟩
  | ret => exact ⟨e, s, m, ι, h, hq⟩
  | _ => exact hq.elim
 | .exit id, _, Q, e, s, hk, m, ι, a, w, h => wp_exit ⟨e, s, m, ι, h, hk⟩
 | .ret, _, Q, e, s, hk, m, ι, a, w, h => wp_ret ⟨e, s, m, ι, h, hk⟩
 | .rangeFunc .., _, Q, e, s, hk, m, ι, a, w, h => (show False from hk).elim
 | .scope _, _, Q, e, s, hk, m, ι, a, w, h => (show False from hk).elim
 | .label _, _, Q, e, s, hk, m, ι, a, w, h => (show False from hk).elim
 | .goto _, _, Q, e, s, hk, m, ι, a, w, h => (show False from hk).elim
 | .refuse _, _, Q, e, s, hk, m, ι, a, w, h => (show False from hk).elim
theorem resV_sound {m : Mem} {ι : List Blk} {e : Env} {s : List O} {a : Act} {w : World} (h : St w0 m0 N m ι e s a w) {x : ResultVar} {v : V} (hv : resV P e s x = some v) :
  ∃ y, (match x with | .tmp t => (pure (a.tmps.getD t undef) : Sem Value) | .cell b t => do loadVar t (← asAddr (a.tmps.getD b undef))).run P w = .ok y w ∧ Rep m ι v y := by
 unfold resV at hv
 split at hv
 ·obtain rfl := Option.some.inj hv
  exact ⟨_, rfl, h.env _⟩
 ·rename_i b t
  split at hv
  ·rename_i id off hp
   have r := h.env b
   rw [hp] at r
   generalize hbv : a.tmps.getD b undef = bv at r
   cases r with
   | ptr _ _ _ β hβ =>
    rw [at?_eq] at hv
    split at hv
    ·rename_i wr cs hs
     obtain ⟨vs, rr, hm⟩ := box_cells h hs hβ off
     obtain ⟨y, hy, ry⟩ := run_ldV (P := P) hv hm rr
     exact ⟨y, by simp [hbv, asAddr, hy], ry⟩
    ·cases hv
  ·cases hv
theorem resL_sound {m : Mem} {ι : List Blk} {e : Env} {s : List O} {a : Act} {w : World} (h : St w0 m0 N m ι e s a w) : ∀ (rs : List ResultVar) (vs : List V), resL P e s rs = some vs →
  ∃ ys, (rs.mapM fun (x : ResultVar) => match x with | .tmp t => (pure (a.tmps.getD t undef) : Sem Value) | .cell b t => do loadVar t (← asAddr (a.tmps.getD b undef))).run P w = Result.ok ys w ∧ RepL m ι vs ys
 | [], vs, hv => by
  simp only [resL, Option.some.injEq] at hv
  subst hv
  exact ⟨[], by simp, RepL.nil m ι⟩
 | x :: rs, vs, hv => by
  simp only [resL] at hv
  split at hv
  ·rename_i v us h1 h2
   obtain rfl := Option.some.inj hv
   obtain ⟨y, hy, ry⟩ := resV_sound h h1
   obtain ⟨ys, hys, rys⟩ := resL_sound h rs us h2
   refine ⟨y :: ys, ?_, rys.cons ry⟩
   simp only [List.mapM_cons, Sem.run_bind, hy, Result.andThen_ok, hys, Sem.run_pure]
  ·cases hv
theorem run_results {fn : Func} {m : Mem} {ι : List Blk} {e : Env} {s : List O} {a : Act} {w : World} (h : St w0 m0 N m ι e s a w) {Q : V → Prop} (hr : resE P fn.results.toList Q e s) :
  ∃ y m' r, Q r ∧ (results fn a.tmps).run P w = .ok y w ∧ m.le m' ∧ Rep m' [] r y ∧ ∃ s', St w0 m0 N m' ι e s' a w := by
 unfold resE at hr
 have main : ∀ vs, resL P e s fn.results.toList = some vs → ∃ ys, (results fn a.tmps).run P w = .ok (if h : ys.toArray.size = 1 then ys.toArray[0] else .tuple ys.toArray) w ∧ RepL m ι vs ys := by
  intro vs hvs
  obtain ⟨ys, hys, rys⟩ := resL_sound h _ _ hvs
  refine ⟨ys, ?_, rys⟩
  unfold results
  rw [Array.mapM_eq_mapM_toList]
  simp only [bind_map_left, Sem.run_bind, Sem.run_pure]
  exact congrArg (fun r : Result (List Value) => r.andThen fun a w' => Result.ok (if h : a.toArray.size = 1 then a.toArray[0] else Value.tuple a.toArray) w') hys
 split at hr
 ·rename_i v hvs
  rw [fV_eq] at hr
  obtain ⟨ys, hrun, rys⟩ := main _ hvs
  obtain ⟨y, rfl⟩ : ∃ y, ys = [y] := by
   have := rys.1
   match ys, this with
   | [y], _ => exact ⟨y, rfl⟩
  obtain ⟨m', hle, h', rl⟩ := h.freeze rys
  exact ⟨y, m', _, hr, by simpa using hrun, hle, rl.2 0 _ y rfl rfl, _, h'⟩
 ·rename_i vs hne hvs
  rw [fV_eq] at hr
  obtain ⟨ys, hrun, rys⟩ := main _ hvs
  have hn : ¬ ys.toArray.size = 1 := by
   intro q
   have hl : vs.length = 1 := by rw [rys.1]; simpa using q
   match vs, hl with
   | [v], _ => exact hne v rfl
  rw [dif_neg hn] at hrun
  obtain ⟨m', hle, h', rl⟩ := h.freeze (vs := [.tup vs]) (xs := [.tuple ys.toArray]) ((RepL.nil m ι).cons (Rep.tupL rys))
  refine ⟨_, m', _, hr, hrun, hle, ?_, _, h'⟩
  have := rl.2 0 _ _ rfl rfl
  simpa only [frz] using this
 ·exact hr.elim
theorem env0_get : ∀ (args : List V) (i t : Nat), Env.get ((args.zipIdx i).map fun x => (x.2, x.1)) t = if i ≤ t then (args[t - i]?).getD .undef else .undef
 | [], i, t => by simp [Env.get]
 | v :: args, i, t => by
  simp only [List.zipIdx_cons, List.map_cons, Env.get]
  cases q : Nat.beq i t
  ·have hne : i ≠ t := fun z => by subst z; simp at q
   simp only [env0_get args (i + 1) t]
   by_cases h : i + 1 ≤ t
   ·rw [if_pos h, if_pos (by omega), show t - i = t - (i + 1) + 1 by omega, List.getElem?_cons_succ]
   ·rw [if_neg h, if_neg (by omega)]
  ·have := Nat.eq_of_beq_eq_true q
   subst this
   simp
theorem RetE.of (hP : P.follows .mixedOrders = true) (H : Nat → Option (List Nat)) (G : List (Nat × List Nat × List (Nat × Nat))) {f : FuncId} {fn : Func} {c : Code} (hf : P.funcs[f]? = some fn) (hb : fn.body = some c) (hcall : ∀ args w, (callFunc f args).run P w = .ok (.enter f args) w)
  (hok : okC P fn.ntmps G c = true) {args : List V} {Q : V → Prop} (hn : args.length ≤ fn.ntmps) (hk : (∀ a ∈ args, wfV 8 a) → awp 0 P H G c (finE P fn.results.toList Q) (env0 args) []) : RetE P f args Q := by
 intro m w vs hG hm rv
 have hwf : ∀ a ∈ args, wfV 8 a := by
  intro x hx
  obtain ⟨i, hi, rfl⟩ := List.mem_iff_getElem.1 hx
  exact (rv.2 i _ _ (List.getElem?_eq_getElem hi) (List.getElem?_eq_getElem (rv.1 ▸ hi))).wf 8
 unfold CallsX
 rw [hcall]
 have h0 : St ⟨w, fun _ => False, []⟩ m fn.ntmps m [] (env0 args) [] { tmps := vs.toArray ++ Array.replicate (fn.ntmps - vs.toArray.size) undef, defers := [] } w :=
  {defers := rfl
   size := by simp [← rv.1]; omega
   env := fun t => by
    unfold env0
    rw [env0_get args 0 t, if_pos (Nat.zero_le _), Nat.sub_zero]
    cases q : args[t]? with
    | none => exact .undef _ _
    | some v =>
     obtain ⟨y, hy, ry⟩ := rv.get q
     have hlt := (List.getElem?_eq_some_iff.1 hy).1
     have : (vs.toArray ++ Array.replicate (fn.ntmps - vs.toArray.size) undef).getD t undef = y := by
      rw [Array.getD_eq_getD_getElem?, Array.getElem?_append_left (by simpa using hlt)]
      simp [hy]
     rw [this]
     exact ry
   mle := Mem.le.refl m
   glo := hG
   mok := hm
   fresh := fun b o x hx hn => by rw [hx] at hn; cases hn
   below := ⟨rfl, rfl, rfl, Nat.le_refl _, fun _ _ _ => rfl⟩
   len := rfl
   obj := fun i o β ho _ => by simp at ho
   own := fun i o β ho _ _ => by simp at ho
   inj := fun i j o p β γ ho _ _ _ _ _ _ => by simp at ho
   pin := fun i β hi => by simp at hi }
 refine calls_of_wp hf hb (wp_mono (awp_sound hP (w0 := ⟨w, fun _ => False, []⟩) rfl c hok _ _ _ (hk hwf) m [] _ w h0) ?_)
 rintro x a w' ⟨e, s, m1, ι, h, hq⟩
 have fin : resE P fn.results.toList Q e s → a.defers = [] ∧ ∃ v, (results fn a.tmps).run P w' = .ok v w' ∧ ∃ v', Ending.returned v = .returned v' ∧ ∃ (m' : Mem) (r : V), Q r ∧ m.le m' ∧ m'.ok w' ∧ Rep m' [] r v' ∧ Below w.heap.size w w' ∧ ∀ b o x, m' b o = some x → m b o = none → w.heap.size ≤ b := by
  intro hr
  obtain ⟨y, m', r, hQ, hrun, hle, ry, s', h'⟩ := run_results h hr
  exact ⟨h.defers, y, hrun, y, rfl, m', r, hQ, h'.mle, h'.mok, ry, ⟨h'.below.os, h'.below.tape, h'.below.output, h'.below.size, fun k hk => h'.below.block k hk (fun x => x)⟩, fun b o x hx hn => (h'.fresh b o x hx hn).elim (fun q => q) False.elim⟩
 cases x with
 | normal => exact fin hq
 | ret => exact fin hq
 | exit id => exact hq.elim
 | _ => exact hq.elim
theorem RetE.ret {f : FuncId} {args : List V} {r : V} (h : RetE P f args fun v => v = r) : Ret P f args r := by
 intro m w vs hG hm rv
 have := h m w vs hG hm rv
 unfold CallsX at this ⊢
 generalize (callFunc f vs.toArray).run P w = q at this
 have fin : ∀ {v : Value} {w' : World}, (∃ (m' : Mem) (q : V), q = r ∧ m.le m' ∧ m'.ok w' ∧ Rep m' [] q v ∧ Below w.heap.size w w' ∧ ∀ b o x, m' b o = some x → m b o = none → w.heap.size ≤ b) →
   ∃ m' : Mem, m.le m' ∧ m'.ok w' ∧ Rep m' [] r v ∧ Below w.heap.size w w' ∧ ∀ b o x, m' b o = some x → m b o = none → w.heap.size ≤ b := by
  rintro v w' ⟨m', q, rfl, k⟩
  exact ⟨m', k⟩
 cases q with
 | ok nx w1 =>
  cases nx <;> first
   | exact fin this
   | exact this.mono fun e w'' ⟨v, he, h2⟩ => ⟨v, he, fin h2⟩
   | exact this.elim
 | halt x w1 => exact this.elim
theorem Ret.of (hP : P.follows .mixedOrders = true) (H : Nat → Option (List Nat)) (G : List (Nat × List Nat × List (Nat × Nat))) {f : FuncId} {fn : Func} {c : Code} (hf : P.funcs[f]? = some fn) (hb : fn.body = some c) (hcall : ∀ args w, (callFunc f args).run P w = .ok (.enter f args) w)
  (hok : okC P fn.ntmps G c = true) {args : List V} {r : V} (hn : args.length ≤ fn.ntmps) (hk : (∀ a ∈ args, wfV 8 a) → awp 0 P H G c (finK P fn.results.toList r) (env0 args) []) : Ret P f args r :=
 RetE.ret (RetE.of hP H G hf hb hcall hok (Q := fun v => v = r) hn hk)
theorem run_resultsL {fn : Func} {m : Mem} {ι : List Blk} {e : Env} {s : List O} {a : Act} {w : World} (h : St w0 m0 N m ι e s a w) {vs : List V} (hvs : resL P e s fn.results.toList = some vs) :
  ∃ y, (results fn a.tmps).run P w = .ok y w ∧ ((∃ v, vs = [v] ∧ Rep m ι v y) ∨ ((∀ v, vs ≠ [v]) ∧ Rep m ι (.tup vs) y)) := by
 obtain ⟨ys, hys, rys⟩ := resL_sound h _ _ hvs
 have hrun : (results fn a.tmps).run P w = .ok (if h : ys.toArray.size = 1 then ys.toArray[0] else .tuple ys.toArray) w := by
  unfold results
  rw [Array.mapM_eq_mapM_toList]
  simp only [bind_map_left, Sem.run_bind, Sem.run_pure]
  exact congrArg (fun r : Result (List Value) => r.andThen fun a w' => Result.ok (if h : a.toArray.size = 1 then a.toArray[0] else Value.tuple a.toArray) w') hys
 match vs, ys, rys, hrun with
 | [v], [y], rys, hrun => exact ⟨y, by simpa using hrun, .inl ⟨v, rfl, rys.2 0 _ _ rfl rfl⟩⟩
 | [], [], rys, hrun => exact ⟨_, hrun, .inr ⟨fun v => by simp, by simpa using Rep.tupL rys⟩⟩
 | v :: u :: vs, y :: z :: ys, rys, hrun => exact ⟨_, hrun, .inr ⟨fun v => by simp, by simpa using Rep.tupL rys⟩⟩
 | [], _ :: _, rys, _ => have := rys.1; simp at this
 | _ :: _, [], rys, _ => have := rys.1; simp at this
 | [v], _ :: _ :: _, rys, _ => have := rys.1; simp at this
 | _ :: _ :: _, [y], rys, _ => have := rys.1; simp at this
theorem RetL.of (hP : P.follows .mixedOrders = true) (H : Nat → Option (List Nat)) (G : List (Nat × List Nat × List (Nat × Nat))) {f : FuncId} {fn : Func} {c : Code} (hf : P.funcs[f]? = some fn) (hb : fn.body = some c) (hcall : ∀ args w, (callFunc f args).run P w = .ok (.enter f args) w)
  (hok : okC P fn.ntmps G c = true) {args : List V} {s1 s2 : List O} {r : V} (hn : args.length ≤ fn.ntmps) (gf : List V → List O → List Nat) (fm : Bool) (hk : (∀ a ∈ args, wfV 8 a) → wfL s1 → awp s1.length P H G c (finL P fn.results.toList r s2 gf fm s1.length) (env0 args) s1) : RetL P f args s1 r s2 := by
 intro m w vs ι0 hmo rv
 have hwf : ∀ a ∈ args, wfV 8 a := by
  intro x hx
  obtain ⟨i, hi, rfl⟩ := List.mem_iff_getElem.1 hx
  exact (rv.2 i _ _ (List.getElem?_eq_getElem hi) (List.getElem?_eq_getElem (rv.1 ▸ hi))).wf 8
 unfold CallsX
 rw [hcall]
 have h0 : St ⟨w, lent s1 ι0, ι0⟩ m fn.ntmps m ι0 (env0 args) s1 { tmps := vs.toArray ++ Array.replicate (fn.ntmps - vs.toArray.size) undef, defers := [] } w :=
  {hmo with
   defers := rfl
   size := by simp [← rv.1]; omega
   env := fun t => by
    unfold env0
    rw [env0_get args 0 t, if_pos (Nat.zero_le _), Nat.sub_zero]
    cases q : args[t]? with
    | none => exact .undef _ _
    | some v =>
     obtain ⟨y, hy, ry⟩ := rv.get q
     have hlt := (List.getElem?_eq_some_iff.1 hy).1
     have : (vs.toArray ++ Array.replicate (fn.ntmps - vs.toArray.size) undef).getD t undef = y := by
      rw [Array.getD_eq_getD_getElem?, Array.getElem?_append_left (by simpa using hlt)]
      simp [hy]
     rw [this]
     exact ry }
 refine calls_of_wp hf hb (wp_mono (awp_sound hP (w0 := ⟨w, lent s1 ι0, ι0⟩) (pn := s1.length) hmo.len.symm c hok _ _ _ (hk hwf hmo.wfL) m ι0 _ w h0) ?_)
 rintro x a w' ⟨e, s, m1, ι, h, hq⟩
 have fin : (match resL P e s fn.results.toList with
  | none => False
  | some vs => fL litK (gf vs s) fun g => match nd g && pre s1.length 0 g with
   | false => False
   | true => match vs with
    | [v] => fW 8 (ren 8 g v) fun v => fL (match fm with | true => fOm | false => fO) (selO s g) fun t => v = r ∧ t = s2
    | vs => fW 8 (V.tup (vs.map (ren 7 g))) fun v => fL (match fm with | true => fOm | false => fO) (selO s g) fun t => v = r ∧ t = s2) → a.defers = [] ∧ ∃ v, (results fn a.tmps).run P w' = .ok v w' ∧ ∃ v', Ending.returned v = .returned v' ∧ ∃ (m' : Mem) (ι' : List Blk), Mo ⟨w, lent s1 ι0, ι0⟩ m m' ι' s2 w' ∧ Rep m' ι' r v' := by
  intro hr
  split at hr
  ·exact hr.elim
  ·rename_i vs hv
   rw [fL_eq litK_eq] at hr
   generalize gf vs s = g at hr
   split at hr
   ·exact hr.elim
   ·rename_i hg
    simp only [Bool.and_eq_true] at hg
    have hfm : ∀ (o : O) (K : O → Prop), (match fm with | true => fOm | false => fO) o K = K o := fun o K => by cases fm; exact fO_eq o K; exact fOm_eq o K
    have hs := h.select [] g hg.1 (by show pre ι0.length 0 g = true; rw [hmo.len]; exact hg.2)
    have hren : ∀ (n : Nat) (v : V) (x : Value), Rep m1 ι v x → Rep m1 (g.map fun i => (ι[i]?).getD ⟨0, 0, 0, 0⟩) (ren n g v) x := Rep.renamed (fun j i β hj hi => by simp [hj, hi])
    have out : ∀ {t : List O}, selO s g = t → Mo ⟨w, lent s1 ι0, ι0⟩ m m1 (g.map fun i => (ι[i]?).getD ⟨0, 0, 0, 0⟩) t w' := fun q => by
     subst q
     exact { mle := hs.mle, glo := hs.glo, mok := hs.mok, fresh := hs.fresh, below := hs.below, len := hs.len, obj := hs.obj, own := hs.own, inj := hs.inj, pin := hs.pin }
    obtain ⟨y, hrun, q⟩ := run_resultsL h hv
    split at hr
    ·rename_i v
     rw [fW_eq, fL_eq hfm] at hr
     rcases q with ⟨v', hv', rv'⟩ | ⟨hne, _⟩
     ·obtain rfl : v = v' := by simpa using hv'
      exact ⟨h.defers, y, hrun, y, rfl, m1, _, out hr.2, hr.1 ▸ hren 8 v y rv'⟩
     ·exact absurd rfl (hne v)
    ·rename_i hne
     rw [fW_eq, fL_eq hfm] at hr
     rcases q with ⟨v', hv', rv'⟩ | ⟨_, rt⟩
     ·exact absurd hv' (hne v')
     ·exact ⟨h.defers, y, hrun, y, rfl, m1, _, out hr.2, hr.1 ▸ hren 8 _ y rt⟩
 cases x with
 | normal => exact fin hq
 | ret => exact fin hq
 | exit id => exact hq.elim
 | _ => exact hq.elim
theorem RetQ.of (hP : P.follows .mixedOrders = true) (H : Nat → Option (List Nat)) (G : List (Nat × List Nat × List (Nat × Nat))) {f : FuncId} {fn : Func} {c : Code} (hf : P.funcs[f]? = some fn) (hb : fn.body = some c) (hcall : ∀ args w, (callFunc f args).run P w = .ok (.enter f args) w)
  (hok : okC P fn.ntmps G c = true) {args : List V} {s1 : List O} {Q : V → List O → Prop} (hn : args.length ≤ fn.ntmps) (hk : (∀ a ∈ args, wfV 8 a) → wfL s1 → awp s1.length P H G c (finQ P fn.results.toList Q) (env0 args) s1) : RetQ P f args s1 Q := by
 intro m w vs ι0 hmo rv
 have hwf : ∀ a ∈ args, wfV 8 a := by
  intro x hx
  obtain ⟨i, hi, rfl⟩ := List.mem_iff_getElem.1 hx
  exact (rv.2 i _ _ (List.getElem?_eq_getElem hi) (List.getElem?_eq_getElem (rv.1 ▸ hi))).wf 8
 unfold CallsX
 rw [hcall]
 have h0 : St ⟨w, lent s1 ι0, ι0⟩ m fn.ntmps m ι0 (env0 args) s1 { tmps := vs.toArray ++ Array.replicate (fn.ntmps - vs.toArray.size) undef, defers := [] } w :=
  {hmo with
   defers := rfl
   size := by simp [← rv.1]; omega
   env := fun t => by
    unfold env0
    rw [env0_get args 0 t, if_pos (Nat.zero_le _), Nat.sub_zero]
    cases q : args[t]? with
    | none => exact .undef _ _
    | some v =>
     obtain ⟨y, hy, ry⟩ := rv.get q
     have hlt := (List.getElem?_eq_some_iff.1 hy).1
     have : (vs.toArray ++ Array.replicate (fn.ntmps - vs.toArray.size) undef).getD t undef = y := by
      rw [Array.getD_eq_getD_getElem?, Array.getElem?_append_left (by simpa using hlt)]
      simp [hy]
     rw [this]
     exact ry }
 refine calls_of_wp hf hb (wp_mono (awp_sound hP (w0 := ⟨w, lent s1 ι0, ι0⟩) (pn := s1.length) hmo.len.symm c hok _ _ _ (hk hwf hmo.wfL) m ι0 _ w h0) ?_)
 rintro x a w' ⟨e, s, m1, ι, h, hq⟩
 have out : Mo ⟨w, lent s1 ι0, ι0⟩ m m1 ι s w' := { mle := h.mle, glo := h.glo, mok := h.mok, fresh := h.fresh, below := h.below, len := h.len, obj := h.obj, own := h.own, inj := h.inj, pin := h.pin }
 have fin : (match resL P e s fn.results.toList with
  | none => False
  | some [v] => fW 8 v fun v => Q v s
  | some vs => fW 8 (V.tup vs) fun v => Q v s) → a.defers = [] ∧ ∃ v, (results fn a.tmps).run P w' = .ok v w' ∧ ∃ v', Ending.returned v = .returned v' ∧ ∃ (m' : Mem) (ι' : List Blk) (r : V) (s' : List O), Q r s' ∧ Mo ⟨w, lent s1 ι0, ι0⟩ m m' ι' s' w' ∧ Rep m' ι' r v' := by
  intro hr
  split at hr
  ·exact hr.elim
  ·rename_i v hv
   rw [fW_eq] at hr
   obtain ⟨y, hrun, q⟩ := run_resultsL h hv
   rcases q with ⟨v', hv', rv'⟩ | ⟨hne, _⟩
   ·obtain rfl : v = v' := by simpa using hv'
    exact ⟨h.defers, y, hrun, y, rfl, m1, ι, v, s, hr, out, rv'⟩
   ·exact absurd rfl (hne v)
  ·rename_i vs hne hv
   rw [fW_eq] at hr
   obtain ⟨y, hrun, q⟩ := run_resultsL h hv
   rcases q with ⟨v', hv', rv'⟩ | ⟨_, rt⟩
   ·exact absurd hv' (hne v')
   ·exact ⟨h.defers, y, hrun, y, rfl, m1, ι, _, s, hr, out, rt⟩
 cases x with
 | normal => exact fin hq
 | ret => exact fin hq
 | exit id => exact hq.elim
 | _ => exact hq.elim
end
end Go.Proofs.YtcbknemdidehlaaGreatDoor.Ab
