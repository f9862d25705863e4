/- The machine's operations do what the rules say: slices, conversions, literals. -/
import Derived.Test.YtkkfclpodgagdaaCoreK
namespace Go.Proofs.Ytkkfclpodgagdaa.Ab
open Go.RowKit
set_option linter.unusedVariables false
set_option linter.unusedSimpArgs false

section
variable {P : Program} {w0 : World} {m0 : Mem} {N : Nat} {m : Mem} {ι : List Blk} {e : Env} {s : List O} {a : Act} {w : World} {o : Oper} {K : V → List O → Prop}

/-- A bound of a slice expression. -/
theorem low_inv {x : Option V} {xv : Option Value} {K : Int → Prop} (h : lowK x K) (r : ∀ v, x = some v → ∃ y, xv = some y ∧ Rep m ι v y) (hn : x = none → xv = none) :
    (∃ k i, xv = some (.int k i) ∧ K i) ∨ (xv = none ∧ K 0) := by
  unfold lowK at h
  split at h
  · exact .inr ⟨hn rfl, h⟩
  · rename_i k i
    obtain ⟨y, rfl, ry⟩ := r _ rfl
    obtain ⟨rfl, _⟩ := ry.int_inv
    exact .inl ⟨k, i, rfl, h⟩
  · exact h.elim
theorem high_inv {n : Int} {x : Option V} {xv : Option Value} {K : Int → Prop} (h : highK n x K) (r : ∀ v, x = some v → ∃ y, xv = some y ∧ Rep m ι v y) (hn : x = none → xv = none) :
    (∃ k i, xv = some (.int k i) ∧ K i) ∨ (xv = none ∧ K n) := by
  unfold highK at h
  split at h
  · exact .inr ⟨hn rfl, h⟩
  · rename_i k i
    obtain ⟨y, rfl, ry⟩ := r _ rfl
    obtain ⟨rfl, _⟩ := ry.int_inv
    exact .inl ⟨k, i, rfl, h⟩
  · exact h.elim
theorem run_bound {k : IntKind} {i : Int} {y : Nat} {code : BoundsCode} (h0 : 0 ≤ i) (h1 : i ≤ y) : (Instr.sliceBound (.int k i) y code).run P w = .ok i.toNat w := by
  simp [Instr.sliceBound, asIntOf, h0, h1]
/-- The three bounds, as the machine finds them. -/
theorem run_bounds {sl : Bool} {len cap : Nat} {lo hi : Option Value} {l h : Int} (hl : (∃ k, lo = some (.int k l)) ∨ (lo = none ∧ l = 0)) (hh : (∃ k, hi = some (.int k h)) ∨ (hi = none ∧ h = len)) (h0 : 0 ≤ l) (h1 : l ≤ h) (h2 : h ≤ cap) :
    (Instr.sliceBounds sl len cap lo hi none).run P w = .ok (l.toNat, h.toNat, cap) w := by
  have eh : (h.toNat : Int) = h := Int.toNat_of_nonneg (by omega)
  rcases hl with ⟨k, rfl⟩ | ⟨rfl, rfl⟩ <;> rcases hh with ⟨j, rfl⟩ | ⟨rfl, rfl⟩
  · have a1 := run_bound (P := P) (w := w) (k := j) (code := if sl then BoundsCode.sliceAcap else .sliceAlen) (show 0 ≤ h by omega) h2
    have a2 := run_bound (P := P) (w := w) (k := k) (i := l) (y := h.toNat) (code := .sliceB) h0 (by omega)
    simp [Instr.sliceBounds, a1, a2]
  · have a2 := run_bound (P := P) (w := w) (k := k) (i := l) (y := len) (code := .sliceB) h0 (by omega)
    simp [Instr.sliceBounds, a2]
  · have a1 := run_bound (P := P) (w := w) (k := j) (code := if sl then BoundsCode.sliceAcap else .sliceAlen) (show 0 ≤ h by omega) h2
    simp [Instr.sliceBounds, a1]
  · simp [Instr.sliceBounds]
theorem run_bounds3 {len cap : Nat} {lo : Option Value} {j : IntKind} {l h x : Int} {k2 : IntKind} (hl : (∃ k, lo = some (.int k l)) ∨ (lo = none ∧ l = 0)) (h0 : 0 ≤ l) (h1 : l ≤ h) (h2 : h ≤ x) (h3 : x ≤ cap) :
    (Instr.sliceBounds true len cap lo (some (.int k2 h)) (some (.int j x))).run P w = .ok (l.toNat, h.toNat, x.toNat) w := by
  have a0 := run_bound (P := P) (w := w) (k := j) (code := .slice3Acap) (show 0 ≤ x by omega) h3
  have a1 := run_bound (P := P) (w := w) (k := k2) (i := h) (y := x.toNat) (code := .slice3B) (by omega) (by omega)
  rcases hl with ⟨k, rfl⟩ | ⟨rfl, rfl⟩
  · have a2 := run_bound (P := P) (w := w) (k := k) (i := l) (y := h.toNat) (code := .slice3C) h0 (by omega)
    simp [Instr.sliceBounds, a0, a1, a2]
  · simp [Instr.sliceBounds, a0, a1]

/-- A part of a row. -/
theorem row_part {x : Bool} {els : List (List V)} {p : Option Addr} {cap sz : Nat} (r : Rep m ι (.row x els) (.slice p els.length cap)) (hs : ∀ e ∈ els, e.length = sz) {l h c : Nat} (h1 : l ≤ h) (h2 : h ≤ els.length) (h3 : h ≤ c) (h4 : c ≤ cap) {x' : Bool} (hx : x' = true → c = h) :
    Rep m ι (.row x' ((els.drop l).take (h - l))) (.slice (if c = l then p else p.map (·.add (l * sz))) (h - l) (c - l)) := by
  generalize hv : Value.slice p els.length cap = vv at r
  cases r with
  | row _ _ _ p' cap' sz' b off g hx1 hc1 hl1 hs1 ha1 hm1 hr1 =>
    simp only [Value.slice.injEq] at hv
    obtain ⟨rfl, _, rfl⟩ := hv
    have hlen : ((els.drop l).take (h - l)).length = h - l := by simp; omega
    have key := Rep.row (m := m) ι x' ((els.drop l).take (h - l)) (if c = l then p else p.map (·.add (l * sz))) (c - l) sz b (off + l * sz) (fun i j => g (l + i) j) (fun q => by rw [hlen, hx q]) (by omega) (by omega)
      (fun el he => hs el (List.mem_of_mem_drop (List.mem_of_mem_take he))) ?_ ?_ ?_
    · rwa [hlen] at key
    · intro hne
      have hlt : l < h := by
        rcases Nat.lt_or_ge l h with q | q
        · exact q
        · exact absurd (List.eq_nil_of_length_eq_zero (by omega)) hne
      have hne2 : els ≠ [] := fun q => by subst q; simp at h2; omega
      rw [if_neg (by omega), ha1 hne2]
      simp only [Option.map_some, addr_add]
    · intro i j el c' hi hj
      rw [List.getElem?_take] at hi
      split at hi
      · rw [List.getElem?_drop] at hi
        have hsz : sz' = sz := (hs1 el (List.mem_of_getElem? hi)).symm.trans (hs el (List.mem_of_getElem? hi))
        have := hm1 (l + i) j el c' hi hj
        rw [hsz, Nat.add_mul] at this
        rw [← this]
        congr 1
        omega
      · cases hi
    · intro i j el c' hi hj
      rw [List.getElem?_take] at hi
      split at hi
      · rw [List.getElem?_drop] at hi
        exact hr1 (l + i) j el c' hi hj
      · cases hi

theorem atO (h : St w0 m0 N m ι e s a w) {x : Option Operand} (hx : ∀ y, x = some y → okX y = true) : (∀ v, x.map (ev e) = some v → ∃ y, x.map a.eval = some y ∧ Rep m ι v y) ∧ (x.map (ev e) = none → x.map a.eval = none) := by
  cases x with
  | none => simp
  | some y => exact ⟨fun v hv => ⟨_, rfl, by simp at hv; subst hv; exact h.at (hx y rfl)⟩, fun q => by simp at q⟩

theorem goes_slice (h : St w0 m0 N m ι e s a w) {t : TypeId} {x : Operand} {lo hi mx : Option Operand} (ho : o.op = .slice t x lo hi mx) (hc : o.op.operands.toList.all okX = true) (hk : opK P e s o K) : Goes P o a w (Lv w0 m0 N e a K) := by
  simp only [opK, ho] at hk
  have hops : okX x = true ∧ (∀ y, lo = some y → okX y = true) ∧ (∀ y, hi = some y → okX y = true) ∧ (∀ y, mx = some y → okX y = true) := by
    rw [ho] at hc
    simp only [Op.operands, Array.toList_append, List.all_append, Bool.and_eq_true] at hc
    refine ⟨by simpa using hc.1.1.1, fun y q => ?_, fun y q => ?_, fun y q => ?_⟩
    · subst q; simpa using hc.1.1.2
    · subst q; simpa using hc.1.2
    · subst q; simpa using hc.2
  have rx := h.at hops.1
  have rlo := atO h hops.2.1
  have rhi := atO h hops.2.2.1
  have rmx := atO h hops.2.2.2
  generalize hvx : a.eval x = vx at *
  generalize ev e x = ux at *
  generalize hlo : lo.map a.eval = vlo at *
  generalize lo.map (ev e) = ulo at *
  generalize hhi : hi.map a.eval = vhi at *
  generalize hi.map (ev e) = uhi at *
  generalize hmx : mx.map a.eval = vmx at *
  generalize mx.map (ev e) = umx at *
  unfold sliceK at hk
  split at hk
  · rename_i b hu
    obtain ⟨rfl, hb⟩ := rx.str_inv
    split at hk
    · obtain rfl : vmx = none := rmx.2 rfl
      have key : ∀ l hh, ((∃ k, vlo = some (.int k l)) ∨ (vlo = none ∧ l = 0)) → ((∃ k, vhi = some (.int k hh)) ∨ (vhi = none ∧ hh = (b.size : Int))) → (Sd (0 ≤ l ∧ l ≤ hh ∧ hh ≤ b.size) ∧ K (.str (b.extract l.toNat hh.toNat)) s) → Goes P o a w (Lv w0 m0 N e a K) := by
        rintro l hh q1 q2 ⟨⟨h0, h1, h2⟩, k⟩
        have hbo := run_bounds (P := P) (w := w) (sl := false) (len := b.size) (cap := b.size) q1 q2 h0 h1 h2
        refine Goes.here h (x := .string (b.extract l.toNat hh.toNat)) ?_ (.str _ _ (by rw [ByteArray.size_extract]; omega)) k
        simp [execOp, ho, hvx, hlo, hhi, hmx, Instr.sliceAt, Instr.slice, run_und hu, hbo]
      rcases low_inv hk rlo.1 rlo.2 with ⟨k1, l, q1, hk⟩ | ⟨q1, hk⟩ <;> rcases high_inv hk rhi.1 rhi.2 with ⟨k2, hh, q2, hk⟩ | ⟨q2, hk⟩
      · exact key l hh (.inl ⟨k1, q1⟩) (.inl ⟨k2, q2⟩) hk
      · exact key l _ (.inl ⟨k1, q1⟩) (.inr ⟨q2, rfl⟩) hk
      · exact key 0 hh (.inr ⟨q1, rfl⟩) (.inl ⟨k2, q2⟩) hk
      · exact key 0 _ (.inr ⟨q1, rfl⟩) (.inr ⟨q2, rfl⟩) hk
    · exact hk.elim
  · rename_i el xx els hu
    split at hk
    · rename_i z hz
      obtain ⟨p, cap, hv, hc1, hx1⟩ : ∃ p cap, vx = .slice p els.length cap ∧ els.length ≤ cap ∧ (xx = true → cap = els.length) := by
        cases rx with
        | row _ _ _ p cap sz' b off g hx1 hc1 hl1 hs1 ha1 hm1 hr1 => exact ⟨p, cap, rfl, hc1, hx1⟩
      subst hv
      split at hk
      · obtain rfl : vmx = none := rmx.2 rfl
        have key : ∀ l hh, ((∃ k, vlo = some (.int k l)) ∨ (vlo = none ∧ l = 0)) → ((∃ k, vhi = some (.int k hh)) ∨ (vhi = none ∧ hh = (els.length : Int))) →
            (Sd (0 ≤ l ∧ l ≤ hh ∧ hh ≤ els.length) ∧ Sd (∀ e ∈ els, e.length = z) ∧ K (.row (xx && decide (hh = els.length)) ((els.drop l.toNat).take (hh - l).toNat)) s) → Goes P o a w (Lv w0 m0 N e a K) := by
          rintro l hh q1 q2 ⟨⟨h0, h1, h2⟩, ⟨h3⟩, k⟩
          have hbo := run_bounds (P := P) (w := w) (sl := true) (len := els.length) (cap := cap) q1 q2 h0 h1 (by omega)
          have e1 : (hh - l).toNat = hh.toNat - l.toNat := by omega
          rw [e1] at k
          refine Goes.here h ?_ (row_part rx h3 (l := l.toNat) (h := hh.toNat) (c := cap) (by omega) (by omega) (by omega) (Nat.le_refl _) (fun q => ?_)) k
          · simp [execOp, ho, hvx, hlo, hhi, hmx, Instr.sliceAt, Instr.slice, run_und hu, hbo, run_size hz]
          · simp only [Bool.and_eq_true, decide_eq_true_eq] at q
            rw [hx1 q.1]
            omega
        rcases low_inv hk rlo.1 rlo.2 with ⟨k1, l, q1, hk⟩ | ⟨q1, hk⟩ <;> rcases high_inv hk rhi.1 rhi.2 with ⟨k2, hh, q2, hk⟩ | ⟨q2, hk⟩
        · exact key l hh (.inl ⟨k1, q1⟩) (.inl ⟨k2, q2⟩) hk
        · exact key l _ (.inl ⟨k1, q1⟩) (.inr ⟨q2, rfl⟩) hk
        · exact key 0 hh (.inr ⟨q1, rfl⟩) (.inl ⟨k2, q2⟩) hk
        · exact key 0 _ (.inr ⟨q1, rfl⟩) (.inr ⟨q2, rfl⟩) hk
      · rename_i mv
        have key : ∀ l hh k2 x j, ((∃ k, vlo = some (.int k l)) ∨ (vlo = none ∧ l = 0)) → vhi = some (.int k2 hh) → vmx = some (.int j x) →
            (Sd (0 ≤ l ∧ l ≤ hh ∧ hh ≤ x ∧ x ≤ els.length) ∧ Sd (∀ e ∈ els, e.length = z) ∧ K (.row (decide (hh = x)) ((els.drop l.toNat).take (hh - l).toNat)) s) → Goes P o a w (Lv w0 m0 N e a K) := by
          rintro l hh k2 x j q1 rfl rfl ⟨⟨h0, h1, h2, h4⟩, ⟨h3⟩, k⟩
          have hbo := run_bounds3 (P := P) (w := w) (len := els.length) (cap := cap) (j := j) (k2 := k2) q1 h0 h1 h2 (by omega)
          have e1 : (hh - l).toNat = hh.toNat - l.toNat := by omega
          rw [e1] at k
          refine Goes.here h ?_ (row_part rx h3 (l := l.toNat) (h := hh.toNat) (c := x.toNat) (by omega) (by omega) (by omega) (by omega) (fun q => ?_)) k
          · simp [execOp, ho, hvx, hlo, hhi, hmx, Instr.sliceAt, Instr.slice, run_und hu, hbo, run_size hz]
          · have := of_decide_eq_true q
            omega
        split at hk
        · exact hk.elim
        · have no : ∀ {u : V} {xv : Option Value}, (∀ v, some u = some v → ∃ y, xv = some y ∧ Rep m ι v y) → xv = none → False := fun q1 q2 => by
            obtain ⟨y, hy, _⟩ := q1 _ rfl
            rw [q2] at hy
            cases hy
          rcases low_inv hk rlo.1 rlo.2 with ⟨k1, l, q1, hk⟩ | ⟨q1, hk⟩ <;> rcases low_inv hk rhi.1 rhi.2 with ⟨k2, hh, q2, hk⟩ | ⟨q2, hk⟩
          · rcases low_inv hk rmx.1 rmx.2 with ⟨k3, x, q3, hk⟩ | ⟨q3, hk⟩
            · exact key l hh k2 x k3 (.inl ⟨k1, q1⟩) q2 q3 hk
            · exact (no rmx.1 q3).elim
          · exact (no rhi.1 q2).elim
          · rcases low_inv hk rmx.1 rmx.2 with ⟨k3, x, q3, hk⟩ | ⟨q3, hk⟩
            · exact key 0 hh k2 x k3 (.inr ⟨q1, rfl⟩) q2 q3 hk
            · exact (no rmx.1 q3).elim
          · exact (no rhi.1 q2).elim
    · exact hk.elim
  · rename_i el id off len hu
    rw [at?_eq] at hk
    split at hk
    · rename_i wr sz els z hs hz
      obtain rfl : vmx = none := rmx.2 rfl
      split at hk
      · rename_i hq
        have hq := Nat.eq_of_beq_eq_true hq
        subst hq
        cases rx with
        | sl _ _ _ _ p cap β hβ hl hc hn hb ha =>
          obtain ⟨vs, et, fr, hsz, _⟩ := h.obj id _ β hs hβ
          have key : ∀ l hh, ((∃ k, vlo = some (.int k l)) ∨ (vlo = none ∧ l = 0)) → ((∃ k, vhi = some (.int k hh)) ∨ (vhi = none ∧ hh = (len : Int))) →
              (Sd (0 ≤ l ∧ l ≤ hh ∧ hh ≤ len) ∧ K (.sl id (off + l.toNat) (hh - l).toNat) s) → Goes P o a w (Lv w0 m0 N e a K) := by
            rintro l hh q1 q2 ⟨⟨h0, h1, h2⟩, k⟩
            have hbo := run_bounds (P := P) (w := w) (sl := true) (len := len) (cap := cap) q1 q2 h0 h1 (by omega)
            have e1 : (hh - l).toNat = hh.toNat - l.toNat := by omega
            rw [e1] at k
            refine Goes.here h (x := .slice (if cap = l.toNat then p else p.map (·.add (l.toNat * sz))) (hh.toNat - l.toNat) (cap - l.toNat)) ?_ (.sl _ id _ _ _ _ β hβ (by omega) (by omega) (by omega) (by omega) (fun q => ?_)) k
            · simp [execOp, ho, hvx, hlo, hhi, hmx, Instr.sliceAt, Instr.slice, run_und hu, hbo, run_size hz]
            · rw [if_neg (by omega), ha (by omega)]
              simp only [Option.map_some, addr_add, Nat.add_mul, hsz]
          rcases low_inv hk rlo.1 rlo.2 with ⟨k1, l, q1, hk⟩ | ⟨q1, hk⟩ <;> rcases high_inv hk rhi.1 rhi.2 with ⟨k2, hh, q2, hk⟩ | ⟨q2, hk⟩
          · exact key l hh (.inl ⟨k1, q1⟩) (.inl ⟨k2, q2⟩) hk
          · exact key l _ (.inl ⟨k1, q1⟩) (.inr ⟨q2, rfl⟩) hk
          · exact key 0 hh (.inr ⟨q1, rfl⟩) (.inl ⟨k2, q2⟩) hk
          · exact key 0 _ (.inr ⟨q1, rfl⟩) (.inr ⟨q2, rfl⟩) hk
      · exact hk.elim
    · exact hk.elim
  · exact hk.elim
end
end Go.Proofs.Ytkkfclpodgagdaa.Ab
