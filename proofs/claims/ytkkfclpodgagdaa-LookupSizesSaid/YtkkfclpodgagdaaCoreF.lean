/- The machine's operations do what the rules say: numbers, texts, parts of values. -/
import Derived.Test.YtkkfclpodgagdaaCoreE
namespace Go.Proofs.Ytkkfclpodgagdaa.Ab
open Go.RowKit
set_option linter.unusedVariables false
set_option linter.unusedSimpArgs false

/-- An operation, run: a value, or a call that returns one. -/
def Goes (P : Program) (o : Oper) (a : Act) (w : World) (R : Value → World → Prop) : Prop :=
  match (execOp a.eval o).run P w with
  | .ok (.value x) w' => R x w'
  | .ok .skip w' => R undef w'
  | .ok (.enter f args) w' => Calls P f args w' fun e w'' => ∃ v, e = .returned v ∧ R v w''
  | _ => False
theorem Goes.wp {P : Program} {o : Oper} {a : Act} {w : World} {K : Act → World → Prop} {Q : Exit → Act → World → Prop} (h : Goes P o a w fun x w' => K (a.put o.dst x) w') : o.wp P a w K Q := by
  unfold Goes at h
  unfold Oper.wp
  generalize (execOp a.eval o).run P w = r at h
  cases r with
  | ok n w' =>
    cases n <;> simp only [Oper.upon] <;> first
      | exact h
      | exact h.mono fun e w'' ⟨v, he, hr⟩ => by subst he; exact hr
      | exact h.elim
  | halt x w' => exact h.elim
theorem Goes.mono {P : Program} {o : Oper} {a : Act} {w : World} {R R' : Value → World → Prop} (h : Goes P o a w R) (hr : ∀ x w', R x w' → R' x w') : Goes P o a w R' := by
  unfold Goes at h ⊢
  generalize (execOp a.eval o).run P w = r at h
  cases r with
  | ok n w' =>
    cases n <;> first
      | exact hr _ _ h
      | exact h.mono fun e w'' ⟨v, he, h2⟩ => ⟨v, he, hr _ _ h2⟩
      | exact h.elim
  | halt x w' => exact h.elim

section
variable {P : Program} {w : World}
theorem run_und {t : TypeId} {d : TypeDesc} (h : P.underlying t = some d) : (underlying t).run P w = .ok d w := by simp [underlying, h]
theorem run_info {t : TypeId} {i : TypeInfo} (h : P.info? t = some i) : (typeInfo t).run P w = .ok i w := by simp [typeInfo, h]
theorem run_size {t : TypeId} {n : Nat} (h : szT P t = some n) : (Go.sizeOf t).run P w = .ok n w := by
  unfold szT at h
  rw [Option.map_eq_some_iff] at h
  obtain ⟨i, hi, rfl⟩ := h
  simp [Go.sizeOf, run_info hi]
theorem run_isAgg {t : TypeId} {b : Bool} (h : isAggT P t = some b) : (isAgg t).run P w = .ok b w := by
  unfold isAggT at h
  unfold isAgg
  split at h
  · rename_i hu; simp [run_und hu]; exact (Option.some.inj h).symm
  · rename_i hu; simp [run_und hu]; exact (Option.some.inj h).symm
  · rename_i d h1 h2 hu
    have hb := Option.some.inj h
    simp only [Sem.run_bind, run_und hu, Result.andThen_ok]
    cases d <;> first
      | exact absurd rfl (h1 _)
      | exact absurd rfl (h2 _ _)
      | simp [← hb]
  · cases h
/-- a zero value's numbers and texts are within their bounds -/
def zOk (P : Program) (t : TypeId) : Bool := match P.info? t with | some i => (match i.zero with | some v => cOk v | none => true) | none => true
theorem run_zero {t : TypeId} {z : V} (h : zeroT P t = some z) (hz : zOk P t = true) : ∃ v, (zeroValue t).run P w = .ok v w ∧ z = ofC v ∧ cOk v = true := by
  unfold zeroT at h
  rw [Option.map_eq_some_iff] at h
  obtain ⟨v, hv, rfl⟩ := h
  rw [Option.bind_eq_some_iff] at hv
  obtain ⟨i, hi, hv⟩ := hv
  refine ⟨v, by simp [zeroValue, run_info hi, hv], rfl, ?_⟩
  simpa [zOk, hi, hv] using hz
end

/-- Constants within their bounds. -/
def okX : Operand → Bool
  | .const v => cOk v
  | _ => true
/-- What is looked at once, for each operation. -/
def okO (P : Program) (N : Nat) (o : Oper) : Bool :=
  (match o.dst with | some t => Nat.blt t N | none => true) && o.op.operands.toList.all okX &&
  (match o.op with
   | .alloc t => zOk P t
   | .build t _ => zOk P t && (match P.underlying t with | some (.struct fs) => (fs.toList.mapM (fun f => (P.info? f.type).map fun i => (f.offset, i.size))).isSome | _ => true)
   | .buildSlice t _ _ => (match P.underlying t with | some (.slice el) => zOk P el | _ => true)
   | .typeAssert _ _ t _ => zOk P t
   | .call c => Nat.beq c.argTypes.size c.args.size
   | .binOp _ t _ _ _ => (match P.underlying t with | some (.struct fs) => fs.toList.all (fun f => f.name != "_") && !P.eqGuardType P.depth t && !P.stoodInHeld t | _ => true)
   | _ => true)

section
variable {P : Program} {w0 : World} {m0 : Mem} {N : Nat} {m : Mem} {ι : List Blk} {e : Env} {s : List O} {a : Act} {w : World} {o : Oper} {K : V → List O → Prop}

/-- What an operation leaves. -/
def Lv (w0 : World) (m0 : Mem) (N : Nat) (e : Env) (a : Act) (K : V → List O → Prop) (x : Value) (w' : World) : Prop :=
  ∃ v s' m' ι', K v s' ∧ Rep m' ι' v x ∧ St w0 m0 N m' ι' e s' a w'
theorem Goes.here (h : St w0 m0 N m ι e s a w) {v : V} {x : Value} (hr : (execOp a.eval o).run P w = .ok (.value x) w) (r : Rep m ι v x) (k : K v s) : Goes P o a w (Lv w0 m0 N e a K) := by
  unfold Goes
  rw [hr]
  exact ⟨v, s, m, ι, k, r, h⟩
theorem St.at (h : St w0 m0 N m ι e s a w) {x : Operand} (hx : okX x = true) : Rep m ι (ev e x) (a.eval x) :=
  h.evs fun v q => by subst q; exact hx

theorem wrapK (k : IntKind) (n : Int) : k.wrap (k.wrap n) = k.wrap n := by
  cases k <;> simp only [IntKind.wrap, IntKind.bits, IntKind.signed] <;> simp <;> omega
/-- the least and the greatest of a kind -/
def kLo (k : IntKind) : Int := match k with | .i8 => -128 | .i16 => -32768 | .i32 => -2147483648 | .i64 => -9223372036854775808 | _ => 0
def kHi (k : IntKind) : Int := match k with | .i8 => 127 | .i16 => 32767 | .i32 => 2147483647 | .i64 => 9223372036854775807 | .u8 => 255 | .u16 => 65535 | .u32 => 4294967295 | .u64 => 18446744073709551615
theorem wrap_iff (k : IntKind) (n : Int) : k.wrap n = n ↔ kLo k ≤ n ∧ n ≤ kHi k := by
  cases k <;> simp only [IntKind.wrap, IntKind.bits, IntKind.signed, kLo, kHi] <;> simp <;> omega
theorem kLo_le (k : IntKind) : kLo k ≤ 0 ∧ 0 ≤ kHi k := by cases k <;> decide
theorem wrap_tmod {k : IntKind} {x y : Int} (hx : k.wrap x = x) : k.wrap (x.tmod y) = x.tmod y := by
  rw [wrap_iff] at hx ⊢
  have hk := kLo_le k
  have hn : (x.tmod y).natAbs ≤ x.natAbs := by rw [Int.natAbs_tmod]; exact Nat.mod_le _ _
  rcases Int.le_total 0 x with h | h
  · have := Int.tmod_nonneg y h
    omega
  · have h2 : 0 ≤ (-x).tmod y := Int.tmod_nonneg y (by omega)
    rw [Int.neg_tmod] at h2
    omega
theorem wrap_shr {k : IntKind} {x : Int} {n : Nat} (hx : k.wrap x = x) : k.wrap (x.fdiv (2 ^ n)) = x.fdiv (2 ^ n) := by
  rw [wrap_iff] at hx ⊢
  have hk := kLo_le k
  have hp : (1 : Int) ≤ 2 ^ n := by
    have := Nat.two_pow_pos n
    have e1 : ((2 ^ n : Nat) : Int) = 2 ^ n := by simp
    omega
  rw [Int.fdiv_eq_ediv_of_nonneg _ (by omega)]
  rcases Int.le_total 0 x with h | h
  · have h1 : 0 ≤ x / 2 ^ n := Int.ediv_nonneg h (by omega)
    have h2 : x / 2 ^ n ≤ x := Int.ediv_le_self _ h
    omega
  · have h1 : x ≤ x / 2 ^ n := by
      rw [Int.le_ediv_iff_mul_le (by omega)]
      have := Int.mul_le_mul_of_nonneg_left hp (show 0 ≤ -x by omega)
      rw [Int.mul_one, Int.neg_mul] at this
      omega
    have h2 : x / 2 ^ n ≤ 0 := by
      have := Int.ediv_le_ediv (show (0 : Int) < 2 ^ n by omega) h
      simpa using this
    omega
end
end Go.Proofs.Ytkkfclpodgagdaa.Ab
