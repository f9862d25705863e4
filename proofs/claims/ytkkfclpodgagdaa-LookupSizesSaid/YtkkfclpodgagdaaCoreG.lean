/- The machine's operations do what the rules say: operators. -/
import Derived.Test.YtkkfclpodgagdaaCoreF
import Derived.Laws.StructEq
namespace Go.Proofs.Ytkkfclpodgagdaa.Ab
open Go.RowKit
set_option linter.unusedVariables false
set_option linter.unusedSimpArgs false

section
variable {P : Program} {w0 : World} {m0 : Mem} {N : Nat} {m : Mem} {ι : List Blk} {e : Env} {s : List O} {a : Act} {w : World} {o : Oper} {K : V → List O → Prop}

theorem wrapR {m : Mem} {ι : List Blk} (k : IntKind) (n : Int) : Rep m ι (.int k (k.wrap n)) (.int k (k.wrap n)) := .int ι k _ (wrapK k n)

theorem str_eq (x y : ByteArray) : (x.toList == y.toList) = decide (x = y) := by
  rw [ByteArray.toList_eq, ByteArray.toList_eq, Bool.eq_iff_iff]
  simp only [beq_iff_eq, decide_eq_true_eq]
  constructor
  · intro h
    cases x; cases y
    congr 1
    exact Array.toList_inj.1 h
  · rintro rfl; rfl

/-- Leaves compared: the machine's way, cell by cell. -/
theorem run_eqLeaf {t : TypeId} {x y : Value} {u v : V} {b : Bool} (hx : Rep m ι u x) (hy : Rep m ι v y) (hq : eqLeaf P t u v = some b) (d : Nat) (w : World) :
    (Op.equalIn (d + 1) t x y).run P w = .ok b w ∧ ∃ tt, isAggT P t = some tt ∧ tt = false := by
  unfold eqLeaf at hq
  split at hq
  · rename_i k k1 a j b1 hu
    split at hq
    · rename_i hk
      have hk := of_decide_eq_true hk
      subst hk
      obtain ⟨rfl, _⟩ := hx.int_inv
      obtain ⟨rfl, _⟩ := hy.int_inv
      refine ⟨?_, _, by simp [isAggT, hu], rfl⟩
      rw [run_equalIn_int w d t _ k _ _ hu]
      obtain rfl := Option.some.inj hq
      rfl
    · cases hq
  · rename_i p q hu
    obtain ⟨rfl, _⟩ := hx.str_inv
    obtain ⟨rfl, _⟩ := hy.str_inv
    refine ⟨?_, _, by simp [isAggT, hu], rfl⟩
    rw [run_equalIn_string w d t _ _ hu, str_eq]
    obtain rfl := Option.some.inj hq
    rfl
  · rename_i p q hu
    obtain rfl := hx.bool_inv
    obtain rfl := hy.bool_inv
    refine ⟨?_, _, by simp [isAggT, hu], rfl⟩
    rw [run_equalIn_bool w d t _ _ hu]
    obtain rfl := Option.some.inj hq
    rfl
  · cases hq

theorem run_part {t : TypeId} (h : isAggT P t = some false) {cs : Array Value} {off : Nat} {v : Value} (hv : cs[off]? = some v) (w : World) : (part t cs off).run P w = .ok v w := by
  simp [part, run_isAgg h, hv]

theorem run_eqFs (d : Nat) (xs ys : Array Value) (w : World) : ∀ (fs : List Field) (i : Nat) (us vs : List V) (b : Bool), RepL m ι us (xs.toList.drop i) → RepL m ι vs (ys.toList.drop i) →
    eqFs P i fs us vs = some b → fs.all (fun f => f.name != "_") = true → (Op.eqFields (d + 1) xs ys fs).run P w = .ok b w
  | [], i, [], [], b, _, _, hq, _ => by
    simp only [eqFs, Option.some.injEq] at hq
    subst hq
    simp [Op.eqFields]
  | f :: fs, i, u :: us, v :: vs, b, hx, hy, hq, hn => by
    simp only [eqFs] at hq
    split at hq
    · rename_i x y hoff hl hr
      obtain rfl := Option.some.inj hq
      have hoff := Nat.eq_of_beq_eq_true hoff
      simp only [List.all_cons, Bool.and_eq_true, bne_iff_ne] at hn
      obtain ⟨p, hp, rp⟩ := hx.get (i := 0) (c := u) rfl
      obtain ⟨q, hq2, rq⟩ := hy.get (i := 0) (c := v) rfl
      obtain ⟨h1, tt, h2, rfl⟩ := run_eqLeaf (P := P) rp rq hl d w
      have hp' : xs[f.offset]? = some p := by rw [hoff]; simpa using hp
      have hq' : ys[f.offset]? = some q := by rw [hoff]; simpa using hq2
      have ih := run_eqFs d xs ys w fs (i + 1) us vs y
        ⟨by have := hx.1; simp at this ⊢; omega, fun k c z hc hz => hx.2 (k + 1) c z (by simpa using hc) (by simpa [Nat.add_assoc, Nat.add_comm 1 k] using hz)⟩
        ⟨by have := hy.1; simp at this ⊢; omega, fun k c z hc hz => hy.2 (k + 1) c z (by simpa using hc) (by simpa [Nat.add_assoc, Nat.add_comm 1 k] using hz)⟩ hr (by simpa using hn.2)
      simp only [Op.eqFields, if_pos hn.1, Sem.run_bind, run_part h2 hp', run_part h2 hq', Result.andThen_ok, h1]
      cases x
      · simp
      · simpa using ih
    · cases hq
  | [], _, _ :: _, _, _, _, _, hq, _ => by simp [eqFs] at hq
  | [], _, [], _ :: _, _, _, _, hq, _ => by simp [eqFs] at hq
  | _ :: _, _, [], _, _, _, _, hq, _ => by simp [eqFs] at hq
  | _ :: _, _, _ :: _, [], _, _, _, hq, _ => by simp [eqFs] at hq

theorem run_nilEq {x0 y0 : Operand} {d : TypeDesc} {t : TypeId} {u v : V} {x y : Value} {c : Bool} (hx : Rep m ι u x) (hy : Rep m ι v y) (hu : P.underlying t = some d) (hc : nilEq d u v = some c) (n : Nat) (w : World) :
    (Op.equalIn (n + 1) t x y).run P w = .ok c w ∧ (eqGuard .eql t x0 y0 x y).run P w = .ok () w ∧ (eqGuard .neq t x0 y0 x y).run P w = .ok () w ∧
    binOp .eql t x y = (do pure (.bool (← Op.equal t x y))) ∧ binOp .neq t x y = (do pure (.bool (!(← Op.equal t x y)))) := by
  unfold nilEq at hc
  split at hc <;> first | (cases hc; done) | (
    cases hx
    cases hy
    obtain rfl := Option.some.inj hc
    refine ⟨by simp [Op.equalIn, run_und hu], by simp [eqGuard], by simp [eqGuard], rfl, rfl⟩)
theorem binK_sound {op : BinOp} {t : TypeId} {x y : Operand} {K : V → Prop} (h : St w0 m0 N m ι e s a w) (hx : okX x = true) (hy : okX y = true)
    (ho : (match P.underlying t with | some (.struct fs) => fs.toList.all (fun f => f.name != "_") && !P.eqGuardType P.depth t && !P.stoodInHeld t | _ => true) = true) (hk : binK P op t (ev e x) (ev e y) K) :
    ∃ v z, K v ∧ Rep m ι v z ∧ ((do eqGuard op t x y (a.eval x) (a.eval y); binOp op t (a.eval x) (a.eval y)) : Sem Value).run P w = .ok z w := by
  have rx := h.at hx
  have ry := h.at hy
  generalize a.eval x = vx at *
  generalize a.eval y = vy at *
  generalize hex0 : ev e x = ux at *
  generalize hey0 : ev e y = uy at *
  clear hex0 hey0
  unfold binK at hk
  split at hk
  · -- numbers
    rename_i k p j q
    obtain ⟨rfl, hp⟩ := rx.int_inv
    obtain ⟨rfl, hq⟩ := ry.int_inv
    have hg : (eqGuard op t x y (.int k p) (.int j q)).run P w = .ok () w := by cases op <;> simp [eqGuard]
    simp only [Sem.run_bind, hg, Result.andThen_ok]
    split at hk
    · obtain ⟨⟨h0⟩, hk⟩ := hk
      exact ⟨_, _, hk, wrapR _ _, by simp [binOp, Op.shift, show ¬ q < 0 by omega]⟩
    · obtain ⟨⟨h0⟩, hk⟩ := hk
      exact ⟨_, _, hk, .int _ _ _ (wrap_shr hp), by simp [binOp, Op.shift, show ¬ q < 0 by omega]⟩
    · rename_i hs1 hs2
      split at hk
      · exact hk.elim
      · rename_i hkj
        have hkj := of_decide_eq_true hkj
        subst hkj
        split at hk
        · exact ⟨_, _, hk, wrapR _ _, by simp [binOp, Op.intArith]⟩
        · exact ⟨_, _, hk, wrapR _ _, by simp [binOp, Op.intArith]⟩
        · exact ⟨_, _, hk, wrapR _ _, by simp [binOp, Op.intArith]⟩
        · obtain ⟨⟨h0⟩, hk⟩ := hk
          exact ⟨_, _, hk, wrapR _ _, by simp [binOp, Op.intDiv, h0]⟩
        · obtain ⟨⟨h0⟩, hk⟩ := hk
          exact ⟨_, _, hk, .int _ _ _ (wrap_tmod hp), by simp [binOp, Op.intDiv, h0]⟩
        · split at hk
          · rename_i r hr
            unfold bitsI at hr
            split at hr <;> first | (cases hr; done) | (obtain rfl := Option.some.inj hr; exact ⟨_, _, hk, wrapR _ _, by simp [binOp, Op.intBits]⟩)
          · split at hk
            · rename_i c hc
              unfold cmpI at hc
              split at hc <;> first | (cases hc; done) | (obtain rfl := Option.some.inj hc; exact ⟨_, _, hk, .bool _ _, by simp [binOp, Op.intCmp, bne]; try rfl⟩)
            · exact hk.elim
  · -- texts
    rename_i p q
    obtain ⟨rfl, hp⟩ := rx.str_inv
    obtain ⟨rfl, hq⟩ := ry.str_inv
    have hg : (eqGuard op t x y (.string p) (.string q)).run P w = .ok () w := by cases op <;> simp [eqGuard]
    simp only [Sem.run_bind, hg, Result.andThen_ok]
    split at hk
    · obtain ⟨⟨h0⟩, hk⟩ := hk
      have h1 : ¬ (((p.size + q.size : Nat) : Int) > IntKind.i64.max) := by
        have : IntKind.i64.max = 9223372036854775807 := rfl
        omega
      refine ⟨_, _, hk, .str _ _ (by simpa using h0), ?_⟩
      simp only [binOp, Op.stringOp, if_neg h1, Sem.run_pure]
    · split at hk
      · rename_i c hc
        unfold cmpS at hc
        split at hc <;> first | (cases hc; done) | (obtain rfl := Option.some.inj hc; exact ⟨_, _, hk, .bool _ _, by simp only [binOp, Op.stringOp, Sem.run_pure, str_eq]⟩)
      · exact hk.elim
  · -- truths
    rename_i p q
    obtain rfl := rx.bool_inv
    obtain rfl := ry.bool_inv
    split at hk
    · rename_i hu
      split at hk
      · rename_i c hc
        unfold flip at hc
        split at hc
        · obtain rfl := Option.some.inj hc
          exact ⟨_, _, hk, .bool _ _, by simp [eqGuard, run_eql_bool w t _ _ hu]⟩
        · obtain rfl := Option.some.inj hc
          exact ⟨_, _, hk, .bool _ _, by simp [eqGuard, run_neq_bool w t _ _ hu]⟩
        · cases hc
      · exact hk.elim
    · exact hk.elim
  · -- structs
    rename_i p q
    obtain ⟨xs, rfl, rxs⟩ := rx.agg_inv
    obtain ⟨ys, rfl, rys⟩ := ry.agg_inv
    split at hk
    · rename_i fs hu
      rw [hu] at ho
      simp only [Bool.and_eq_true, Bool.not_eq_true'] at ho
      split at hk
      · rename_i c hc
        have hf : P.fieldsOf t = fs := by simp [Program.fieldsOf, hu]
        have he : (Op.equalIn 10000 t (.agg xs.toArray) (.agg ys.toArray)).run P w = .ok c w := by
          rw [run_equalIn_agg w 9999 t _ _ (by rw [hf]; exact hu) ho.2, hf]
          exact run_eqFs 9998 _ _ w fs.toList 0 p q c (by simpa using rxs) (by simpa using rys) hc ho.1.1
        have hg := run_eqGuard_agg (P := P) w op t x y xs.toArray ys.toArray ho.1.2
        split at hk
        · rename_i r hr
          unfold flip at hr
          split at hr
          · obtain rfl := Option.some.inj hr
            refine ⟨_, _, hk, .bool _ _, ?_⟩
            simp only [Sem.run_bind, hg, Result.andThen_ok, run_eql_struct, he]
          · obtain rfl := Option.some.inj hr
            refine ⟨_, _, hk, .bool _ _, ?_⟩
            simp only [Sem.run_bind, hg, Result.andThen_ok, run_neq_struct, he]
          · cases hr
        · exact hk.elim
      · exact hk.elim
    · exact hk.elim
  · -- function values and nil
    split at hk
    · rename_i d hu
      split at hk
      · rename_i c hc
        split at hk
        · rename_i r hr
          obtain ⟨h1, h2, h3, h4, h5⟩ := run_nilEq (P := P) (x0 := x) (y0 := y) rx ry hu hc 9999 w
          have h6 : (Op.equal t vx vy).run P w = .ok c w := h1
          have key : ∃ z, Rep m ι (.bool r) z ∧ ((do eqGuard op t x y vx vy; binOp op t vx vy) : Sem Value).run P w = .ok z w := by
            unfold flip at hr
            split at hr
            · obtain rfl := Option.some.inj hr
              exact ⟨_, .bool _ _, by simp only [Sem.run_bind, h2, Result.andThen_ok, h4, h6, Sem.run_pure]⟩
            · obtain rfl := Option.some.inj hr
              exact ⟨_, .bool _ _, by simp only [Sem.run_bind, h3, Result.andThen_ok, h5, h6, Sem.run_pure]⟩
            · cases hr
          obtain ⟨z, hz, hr2⟩ := key
          exact ⟨_, z, hk, hz, hr2⟩
        · exact hk.elim
      · exact hk.elim
    · exact hk.elim
end
end Go.Proofs.Ytkkfclpodgagdaa.Ab
