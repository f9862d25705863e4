/- The machine's operations do what the rules say: the plain ones. -/
import Derived.Test.YtkkfclpodgagdaaCoreH
import Derived.Laws.Build
import Derived.Laws.Slices
namespace Go.Proofs.Ytkkfclpodgagdaa.Ab
open Go.RowKit
set_option linter.unusedVariables false
set_option linter.unusedSimpArgs false

section
variable {P : Program} {w0 : World} {m0 : Mem} {N : Nat} {m : Mem} {ι : List Blk} {e : Env} {s : List O} {a : Act} {w : World} {o : Oper} {K : V → List O → Prop}

theorem notNil_inv {v : V} {x : Value} (h : Rep m ι v x) (hn : notNil v = true) : (∃ b, x = .pointer (some b)) ∨ ∃ f va vb, x = .func (.func f) va vb := by
  cases h <;> simp_all [notNil]
theorem goes_nilCheck (h : St w0 m0 N m ι e s a w) {x : Operand} (ho : o.op = .nilCheck x) (hx : okX x = true) (hk : opK P e s o K) : Goes P o a w (Lv w0 m0 N e a K) := by
  simp only [opK, ho] at hk
  have rx := h.at hx
  split at hk
  · rename_i hn
    rcases notNil_inv rx hn with ⟨b, hb⟩ | ⟨f, va, vb, hb⟩
    · exact Goes.here h (by simp [execOp, ho, hb]) (hb ▸ rx) hk
    · exact Goes.here h (by simp [execOp, ho, hb]) (hb ▸ rx) hk
  · exact hk.elim
theorem goes_unOp (h : St w0 m0 N m ι e s a w) {op : UnOp} {t : TypeId} {x : Operand} (ho : o.op = .unOp op t x) (hx : okX x = true) (hk : opK P e s o K) : Goes P o a w (Lv w0 m0 N e a K) := by
  simp only [opK, ho] at hk
  have rx := h.at hx
  generalize hvx : a.eval x = vx at *
  generalize ev e x = ux at *
  unfold unK at hk
  split at hk
  · rename_i k n
    obtain ⟨rfl, hp⟩ := rx.int_inv
    exact Goes.here h (x := .int k (k.wrap (0 - n))) (by simp [execOp, ho, hvx, Op.unary, Op.intArith]) (wrapR _ _) hk
  · obtain rfl := rx.bool_inv
    exact Goes.here h (by simp [execOp, ho, hvx, Op.unary]) (.bool _ _) hk
  · exact hk.elim
theorem goes_makeInterface (h : St w0 m0 N m ι e s a w) {t : TypeId} {x : Operand} (ho : o.op = .makeInterface t x) (hx : okX x = true) (hk : opK P e s o K) : Goes P o a w (Lv w0 m0 N e a K) := by
  simp only [opK, ho] at hk
  have rx := h.at hx
  split at hk
  · exact hk.elim
  · rename_i d hd hu
    refine Goes.here h ?_ (.iface _ t _ _ rx) hk
    simp only [execOp, ho, Instr.makeInterface, Sem.run_bind, run_und hu, Result.andThen_ok]
    cases d <;> first
      | exact absurd rfl (hd _)
      | simp
  · exact hk.elim
theorem goes_typeAssert (h : St w0 m0 N m ι e s a w) {xt t : TypeId} {ok : Bool} {x : Operand} (ho : o.op = .typeAssert x xt t ok) (hx : okX x = true) (hz : zOk P t = true) (hk : opK P e s o K) : Goes P o a w (Lv w0 m0 N e a K) := by
  simp only [opK, ho] at hk
  have rx := h.at hx
  generalize hvx : a.eval x = vx at *
  generalize ev e x = ux at *
  split at hk
  · exact hk.elim
  · rename_i d hd hu
    have hni : ∀ ms, d ≠ .interface ms := fun ms z => hd ms z
    have two : ∀ {v : V} {y : Value} (b : Bool), Rep m ι v y → Rep m ι (.tup [v, .bool b]) (.tuple #[y, .bool b]) := fun b r => Rep.tupL (vs := [_, _]) ((RepL.nil m ι).cons (.bool ι b) |>.cons r)
    split at hk
    · rename_i tt v
      cases rx with
      | iface _ _ _ y ry =>
        split at hk
        · rename_i hq
          have hq := Nat.eq_of_beq_eq_true hq
          subst hq
          split at hk
          · refine Goes.here h ?_ (two true ry) hk
            simp only [execOp, ho, hvx, Instr.typeAssert, Sem.run_bind, run_und hu, Result.andThen_ok]
            cases d <;> first
              | exact absurd rfl (hni _)
              | simp
          · refine Goes.here h ?_ ry hk
            simp only [execOp, ho, hvx, Instr.typeAssert, Sem.run_bind, run_und hu, Result.andThen_ok]
            cases d <;> first
              | exact absurd rfl (hni _)
              | simp
        · rename_i hq
          have hne : ¬ tt = t := fun z => by subst z; simp at hq
          split at hk
          · rename_i z hz0
            obtain ⟨zv, hzv, rfl, hok⟩ := run_zero (w := w) hz0 hz
            refine Goes.here h ?_ (two false (ofC_rep m ι zv hok)) hk
            simp only [execOp, ho, hvx, Instr.typeAssert, Sem.run_bind, run_und hu, Result.andThen_ok]
            cases d <;> first
              | exact absurd rfl (hni _)
              | simp [hne, hzv]
          · exact hk.elim
    · cases rx with
      | nilI =>
        split at hk
        · rename_i z hz0
          obtain ⟨zv, hzv, rfl, hok⟩ := run_zero (w := w) hz0 hz
          refine Goes.here h ?_ (two false (ofC_rep m ι zv hok)) hk
          simp only [execOp, ho, hvx, Instr.typeAssert, Sem.run_bind, run_und hu, Result.andThen_ok]
          cases d <;> first
            | exact absurd rfl (hni _)
            | simp [hzv]
        · exact hk.elim
    · exact hk.elim
  · exact hk.elim
theorem ats (h : St w0 m0 N m ι e s a w) {xs : Array Operand} (hx : xs.toList.all okX = true) : RepL m ι (xs.toList.map (ev e)) (xs.map a.eval).toList := by
  rw [Array.toList_map]
  exact RepL.map _ _ _ fun x hx' => h.at (List.all_eq_true.1 hx x hx')
theorem goes_makeFunc (h : St w0 m0 N m ι e s a w) {fn : Fn} {xs ys : Array Operand} (ho : o.op = .makeFunc fn xs ys) (hx : xs.toList.all okX = true) (hy : ys.toList.all okX = true) (hk : opK P e s o K) : Goes P o a w (Lv w0 m0 N e a K) := by
  simp only [opK, ho] at hk
  split at hk
  · rename_i f
    have r1 := ats h hx
    have r2 := ats h hy
    have r := Rep.fn (m := m) ι f _ _ _ _ r1.1 r2.1 r1.2 r2.2
    rw [Array.toArray_toList, Array.toArray_toList] at r
    exact Goes.here h (by simp [execOp, ho, Instr.makeFunc]) r hk
  · exact hk.elim
theorem goes_extract (h : St w0 m0 N m ι e s a w) {x : Operand} {i : Nat} (ho : o.op = .extract x i) (hx : okX x = true) (hk : opK P e s o K) : Goes P o a w (Lv w0 m0 N e a K) := by
  simp only [opK, ho] at hk
  have rx := h.at hx
  generalize hvx : a.eval x = vx at *
  generalize ev e x = ux at *
  split at hk
  · rename_i vs
    obtain ⟨xs, rfl, r⟩ := rx.tup_inv
    rw [at?_eq] at hk
    split at hk
    · rename_i v hv
      obtain ⟨y, hy, ry⟩ := r.get hv
      refine Goes.here h ?_ ry hk
      simp [execOp, ho, hvx, Instr.extract, hy]
    · exact hk.elim
  · exact hk.elim
theorem run_part2 {t : TypeId} {cs : List V} {v : V} {off : Nat} (hv : ldV P t (cs.drop off) = some v) {vs : List Value} (r : RepL m ι cs vs) (w : World) : ∃ x, (part t vs.toArray off).run P w = .ok x w ∧ Rep m ι v x := by
  unfold ldV at hv
  split at hv
  · rename_i n hA hn
    split at hv
    · obtain rfl := Option.some.inj hv
      refine ⟨_, ?_, Rep.aggL ((r.drop off).take n)⟩
      simp [part, run_isAgg hA, run_size hn, List.take_drop, Nat.add_comm]
    · cases hv
  · rename_i hA
    rw [List.head?_drop] at hv
    obtain ⟨x, hx, rx⟩ := r.get hv
    exact ⟨x, run_part hA (by simpa using hx) w, rx⟩
  · cases hv
theorem goes_field (h : St w0 m0 N m ι e s a w) {t : TypeId} {x : Operand} {i : Nat} (ho : o.op = .field t x i) (hx : okX x = true) (hk : opK P e s o K) : Goes P o a w (Lv w0 m0 N e a K) := by
  simp only [opK, ho] at hk
  have rx := h.at hx
  generalize hvx : a.eval x = vx at *
  generalize ev e x = ux at *
  split at hk
  · rename_i fs cs hu
    obtain ⟨xs, rfl, r⟩ := rx.agg_inv
    split at hk
    · rename_i f hf
      split at hk
      · rename_i v hv
        obtain ⟨y, hy, ry⟩ := run_part2 (P := P) hv r w
        refine Goes.here h ?_ ry hk
        simp [execOp, ho, hvx, Instr.field, run_und hu, hf, asAgg, hy]
      · exact hk.elim
    · exact hk.elim
  · exact hk.elim
theorem goes_fieldAddr (h : St w0 m0 N m ι e s a w) {t : TypeId} {x : Operand} {i : Nat} (ho : o.op = .fieldAddr t x i) (hx : okX x = true) (hk : opK P e s o K) : Goes P o a w (Lv w0 m0 N e a K) := by
  simp only [opK, ho] at hk
  have rx := h.at hx
  generalize hvx : a.eval x = vx at *
  generalize ev e x = ux at *
  split at hk
  · rename_i fs hu
    split at hk
    · rename_i f hf
      split at hk
      · rename_i n hn
        have fin : ∀ {b off : Nat} {v : V}, vx = .pointer (some ⟨b, off, none⟩) → Rep m ι v (.pointer (some ⟨b, off + f.offset, none⟩)) → K v s → Goes P o a w (Lv w0 m0 N e a K) := by
          intro b off v hv r k
          refine Goes.here h ?_ r k
          subst hv
          simp [execOp, ho, hvx, Instr.fieldAt, run_und hu, hf, Instr.sureAddr, fieldPlace, run_size hn, addr_add]
        split at hk
        · rename_i id off
          cases rx with
          | ptr _ _ _ β hβ => rw [litK_eq] at hk; exact fin rfl (.ptr _ id _ β hβ) hk
        · rename_i id j off
          cases rx with
          | eptr _ _ _ _ β hβ => rw [litK_eq] at hk; exact fin rfl (by have := Rep.eptr (m := m) ι id j (off + f.offset) β hβ; rwa [← Nat.add_assoc] at this) hk
        · rename_i cs
          cases rx with
          | elem _ _ b off g hm hr =>
            refine fin rfl (.elem _ _ b _ (fun j => g (f.offset + j)) ?_ ?_) hk
            · intro j c hj
              rw [List.getElem?_drop] at hj
              rw [Nat.add_assoc]
              exact hm _ c hj
            · intro j c hj
              rw [List.getElem?_drop] at hj
              exact hr _ c hj
        · exact hk.elim
      · exact hk.elim
    · exact hk.elim
  · exact hk.elim
theorem bytes_get {b : ByteArray} {i : Nat} {c : UInt8} : b[i]? = some c ↔ b.data.toList[i]? = some c := by
  rw [Array.getElem?_toList]
  rfl
theorem u8_wrap (c : UInt8) : IntKind.u8.wrap (c.toNat : Int) = c.toNat := by
  have := c.toNat_lt
  rw [wrap_iff]
  simp only [kLo, kHi]
  omega
theorem goes_index (h : St w0 m0 N m ι e s a w) {t : TypeId} {x y : Operand} (ho : o.op = .index t x y) (hx : okX x = true) (hy : okX y = true) (hk : opK P e s o K) : Goes P o a w (Lv w0 m0 N e a K) := by
  simp only [opK, ho] at hk
  have rx := h.at hx
  have ry := h.at hy
  generalize hvx : a.eval x = vx at *
  generalize hvy : a.eval y = vy at *
  generalize ev e x = ux at *
  generalize ev e y = uy at *
  split at hk
  · rename_i b k n hu
    obtain ⟨rfl, hb⟩ := rx.str_inv
    obtain ⟨rfl, hn⟩ := ry.int_inv
    obtain ⟨⟨h1⟩, hk⟩ := hk
    have hlt : n.toNat < b.size := by omega
    have hc : b[n.toNat]? = some b[n.toNat] := getElem?_pos b n.toNat hlt
    refine Goes.here h ?_ (.int _ _ _ (u8_wrap _)) (hk _ hc)
    simp [execOp, ho, hvx, hvy, Instr.index, asIntOf, run_und hu, h1.1, hc]
  · rename_i len el cs k n hu
    obtain ⟨xs, rfl, r⟩ := rx.agg_inv
    obtain ⟨rfl, hn⟩ := ry.int_inv
    split at hk
    · rename_i z hz
      obtain ⟨⟨h1⟩, ⟨h2⟩, hk⟩ := hk
      obtain ⟨v, hv⟩ := Option.isSome_iff_exists.1 h2
      obtain ⟨y, hy2, ry2⟩ := run_part2 (P := P) hv r w
      refine Goes.here h ?_ ry2 (hk v hv)
      simp [execOp, ho, hvx, hvy, Instr.index, asIntOf, run_und hu, h1, run_size hz, hy2]
    · exact hk.elim
  · exact hk.elim
theorem goes_indexAddr (h : St w0 m0 N m ι e s a w) {t : TypeId} {x y : Operand} (ho : o.op = .indexAddr t x y) (hx : okX x = true) (hy : okX y = true) (hk : opK P e s o K) : Goes P o a w (Lv w0 m0 N e a K) := by
  simp only [opK, ho] at hk
  have rx := h.at hx
  have ry := h.at hy
  generalize hvx : a.eval x = vx at *
  generalize hvy : a.eval y = vy at *
  generalize ev e x = ux at *
  generalize ev e y = uy at *
  split at hk
  · rename_i el xx els k n hu
    obtain ⟨rfl, hn⟩ := ry.int_inv
    cases rx with
    | row _ _ _ p cap sz b off g hx1 hc1 hl1 hs1 ha1 hm1 hr1 =>
      split at hk
      · rename_i z hz
        obtain ⟨⟨h1⟩, hk⟩ := hk
        have hlt : n.toNat < els.length := by omega
        obtain ⟨⟨h2⟩, hk2⟩ := hk _ (List.getElem?_eq_getElem hlt)
        have hsz : sz = z := (hs1 _ (List.getElem_mem hlt)).symm.trans h2
        subst hsz
        obtain rfl := ha1 (fun q => by rw [q] at hlt; simp at hlt)
        refine Goes.here h (x := .pointer (some ⟨b, off + n.toNat * sz, none⟩)) ?_ (.elem _ _ b _ (fun j => g n.toNat j) ?_ ?_) hk2
        · simp [execOp, ho, hvx, hvy, Instr.indexAt, asIntOf, run_und hu, h1, run_size hz, addr_add]
        · intro j c hj
          exact hm1 _ j _ c (List.getElem?_eq_getElem hlt) hj
        · intro j c hj
          exact hr1 _ j _ c (List.getElem?_eq_getElem hlt) hj
      · exact hk.elim
  · rename_i el id off len k n hu
    obtain ⟨rfl, hn⟩ := ry.int_inv
    cases rx with
    | sl _ _ _ _ p cap β hβ hl hc hnn hb ha =>
      rw [at?_eq] at hk
      split at hk
      · rename_i wr sz els z hs hz
        split at hk
        · rename_i hq
          have hq := Nat.eq_of_beq_eq_true hq
          subst hq
          obtain ⟨⟨h1⟩, hk⟩ := hk
          obtain rfl := ha (by omega)
          obtain ⟨vs, et, fr, hsz, _⟩ := h.obj id _ β hs hβ
          have hr := Rep.eptr (m := m) ι id (off + n.toNat) 0 β hβ
          refine Goes.here h (x := .pointer (some ⟨β.blk, (off + n.toNat) * β.sz + 0, none⟩)) ?_ hr hk
          simp [execOp, ho, hvx, hvy, Instr.indexAt, asIntOf, run_und hu, h1, run_size hz, addr_add, hsz, Nat.add_mul]
        · exact hk.elim
      · exact hk.elim
  · rename_i len el id off k n hu
    obtain ⟨rfl, hn⟩ := ry.int_inv
    cases rx with
    | ptr _ _ _ β hβ =>
      split at hk
      · rename_i z hz
        obtain ⟨⟨h1⟩, hk⟩ := hk
        refine Goes.here h (x := .pointer (some ⟨β.blk, off + n.toNat * z, none⟩)) ?_ (.ptr _ id _ β hβ) hk
        simp [execOp, ho, hvx, hvy, Instr.indexAt, asIntOf, run_und hu, h1, run_size hz, addr_add, Instr.sureAddr]
      · exact hk.elim
  · rename_i len el cs k n hu
    obtain ⟨rfl, hn⟩ := ry.int_inv
    cases rx with
    | elem _ _ b off g hm hr =>
      split at hk
      · rename_i z hz
        obtain ⟨⟨h1⟩, hk⟩ := hk
        refine Goes.here h (x := .pointer (some ⟨b, off + n.toNat * z, none⟩)) ?_ (.elem _ _ b _ (fun j => g (n.toNat * z + j)) ?_ ?_) hk
        · simp [execOp, ho, hvx, hvy, Instr.indexAt, asIntOf, run_und hu, h1, run_size hz, addr_add, Instr.sureAddr]
        · intro j c hj
          rw [List.getElem?_drop] at hj
          rw [Nat.add_assoc]
          exact hm _ c hj
        · intro j c hj
          rw [List.getElem?_drop] at hj
          exact hr _ c hj
      · exact hk.elim
  · exact hk.elim
end
end Go.Proofs.Ytkkfclpodgagdaa.Ab
