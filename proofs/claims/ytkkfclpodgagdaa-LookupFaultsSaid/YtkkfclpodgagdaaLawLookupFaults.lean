-- PRINTED (rowc.py)
import Derived.Test.YtkkfclpodgagdaaRows
import Derived.Test.YtkkfclpodgagdaaFn
import Derived.Test.YtkkfclpodgagdaaCore1
import Derived.WalkKit
import Derived.ProofKit
import Derived.OpenShut
import Derived.ShutString
import Derived.ChangeOld
import Derived.Below
import Derived.SizedLaws
namespace Go.Proofs.Ytkkfclpodgagdaa.lookupFaults
open Go.ChangeShapes Go.WideShapes Go.ChangeAt Go.RowKit
open Go.ChangeMaps (open_string shut_string)
set_option linter.all false
theorem own : ownKnob Try.prog.godebug = none := by kernel_rfl
theorem laidOut : laidOutB Try.prog = true := by kernel_rfl
def good26 (b : GV) : Prop := ((IntKind.i64.wrap b.k = b.k) ∧ ((IntKind.i64.wrap b.n = b.n) ∧ (b.s.size ≤ 140737488351232)))
def bulk26 (b : GV) : Nat := ((1 + (1 + (b.s.size + 1)))) + 1
theorem opens26 (w : World) : Ab.Opens Try.prog w 26 (α := GV) cV good26 bulk26 :=
 Ab.opens_struct (w := w) Try.underlying26 (by kernel_rfl) (Ab.opensS_cons (o := 0) (k := 1) (total := 3) (Ab.opens_int Try.underlying3) rfl (by kernel_rfl) (Ab.opensS_cons (o := 1) (k := 1) (total := 3) (Ab.opens_int Try.underlying3) rfl (by kernel_rfl) (Ab.opensS_one (o := 2) (total := 3) (Ab.opens_string Try.underlying9) rfl (by kernel_rfl)))) (fun b : GV => (b.k, b.n, b.s)) (fun a => GV.mk a.1 a.2.1 a.2.2) (fun _ => rfl)
def good34 (b : Ar) : Prop := ((IntKind.i64.wrap b.rows = b.rows) ∧ ((IntKind.i64.wrap b.cols = b.cols) ∧ ((b.l.length * 32 ≤ 140737488351232 ∧ b.l.length ≤ 9223372036854775807 ∧ ∀ x ∈ b.l, (good26 x)) ∧ True)))
def bulk34 (b : Ar) : Nat := ((1 + (1 + (((b.l.map (fun x => (bulk26 x))).sum + 1) + 1)))) + 1
theorem opens34 (w : World) : Ab.Opens Try.prog w 34 (α := Ar) cA good34 bulk34 :=
 Ab.opens_struct (w := w) Try.underlying34 (by kernel_rfl) (Ab.opensS_cons (o := 0) (k := 1) (total := 4) (Ab.opens_int Try.underlying3) rfl (by kernel_rfl) (Ab.opensS_cons (o := 1) (k := 1) (total := 4) (Ab.opens_int Try.underlying3) rfl (by kernel_rfl) (Ab.opensS_cons (o := 2) (k := 1) (total := 4) (Ab.opens_slice Try.underlying32 3 (by decide) (by kernel_rfl) (fun _ => rfl) (opens26 _) 32 (by kernel_rfl)) rfl (by kernel_rfl) (Ab.opensS_one (o := 3) (total := 4) (Ab.opens_bool Try.underlying4) rfl (by kernel_rfl))))) (fun b : Ar => (b.rows, b.cols, b.l, b.many)) (fun a => Ar.mk a.1 a.2.1 a.2.2.1 a.2.2.2) (fun _ => rfl)
set_option maxRecDepth 100000 in
theorem lifted (os : Os) (started : os.Started) (H : Type) (enc : TypeId × Value → H) :
  ReturnsInHanded {} Try.checked os 3 .any (Rows.lookupFaultsSpec.pre6 enc Try.prog Try.f3 Rows.lookupFaultsRow.domain false) (Rows.lookupFaultsSpec.post enc Try.prog Try.f3 false true false false) := by
 refine returnsInHanded_of_change_sized (C := Try.checked) own started (by kernel_rfl) Try.func3
  (ChangeSpec.witness6 (enc := enc) (C := Try.checked) false ⟨#[], #[.string ByteArray.empty, .slice none 0 0], []⟩ 8 (by kernel_rfl) (by kernel_rfl) (by kernel_rfl) (by kernel_rfl)) ?_
 intro W base args ds gs before hval0 hW hcnd hsz0 _
 have hsz : (DataW.weightsEach Try.prog (Try.f3.params.toList ++ Rows.lookupFaultsSpec.plain.varTypes Try.prog) (ds ++ gs)).all (· ≤ reachBytes) = true := hsz0
 have hval : ∀ (j : Nat) t v, Try.f3.params[j]? = some t → args[j]? = some v → Value.okWide Try.prog W .any base t v := hval0
 have hW' := hW
 obtain ⟨p, q, hA0, hV, rfl, hfz, hnd⟩ := hW
 have hA : DataW.TrodAll enc Try.prog W 0 (fun _ => true) true Try.f3.params.toList args.toList ds p := hA0
 rw [Try.params3] at hA hval hsz
 obtain ⟨v0, vs0, d0, ds0, p0, q0, hargs, rfl, rfl, h0, r0⟩ := trodAll_cons hA
 obtain ⟨v1, vs1, d1, ds1, p1, q1, rfl, rfl, rfl, h1, r1⟩ := trodAll_cons r0
 obtain ⟨rfl, rfl, rfl⟩ := trodAll_nil r1
 obtain rfl : args = #[v0, v1] := by cases args; simp_all
 obtain ⟨rfl, rfl⟩ := trodVars_none hV
 have k0 := h0
 have lt0 : ∀ x ∈ p0, x.block < W.heap.size := by obtain ⟨m, hm⟩ := k0; exact DataW.trod_lt m _ _ _ hm
 have wz0 : ∀ n ∈ d0.weights Try.prog 9, n ≤ reachBytes := fun n hn => of_decide_eq_true (List.all_eq_true.1 hsz _ (DataW.weights_mem_each (j := 0) (t := 9) rfl rfl n hn))
 obtain ⟨f0, hf0⟩ := h0
 obtain ⟨x0, K0, g0, b0⟩ := (Ab.opens_string Try.underlying9) H enc _ _ f0 _ _ hf0 wz0
 obtain ⟨z0, rfl⟩ := okWide_string Try.underlying9 (hval 0 9 v0 rfl rfl)
 have R0 := Ab.repL_head K0
 have k1 := h1
 have lt1 : ∀ x ∈ p1, x.block < W.heap.size := by obtain ⟨m, hm⟩ := k1; exact DataW.trod_lt m _ _ _ hm
 have wz1 : ∀ n ∈ d1.weights Try.prog 22, n ≤ reachBytes := fun n hn => of_decide_eq_true (List.all_eq_true.1 hsz _ (DataW.weights_mem_each (j := 1) (t := 22) rfl rfl n hn))
 obtain ⟨f1, hf1⟩ := h1
 obtain ⟨x1, K1, g1, b1⟩ := (Ab.opens_slice Try.underlying22 4 (by decide) (by kernel_rfl) (fun _ => rfl) (opens34 _) 48 (by kernel_rfl)) H enc _ _ f1 _ _ hf1 wz1
 obtain ⟨sa1, len1, cap1, rfl⟩ := okWide_slice Try.underlying22 (hval 1 22 v1 rfl rfl)
 have R1 := Ab.repL_head K1
 clear hA0 hval0 hsz0 hsz
 refine (Ab.Ret.law (lookupFaults_ret x0 x1 g0 g1) (Ab.repL_cons R0 (Ab.repL_cons R1 Ab.repL_nil)) Try.call3).mono fun e W' ⟨he, bel⟩ => ?_
 subst he
 exact ⟨_, rfl, _, _, _, [], _, [], hW', trodAll_mk1 (shut_bool Try.underlying4 _), (trodAll_cons_mk (Below.trod laidOut (by kernel_rfl) (of_decide_eq_true (by kernel_rfl)) k0 bel lt0) (trodAll_cons_mk (Below.trod laidOut (by kernel_rfl) (of_decide_eq_true (by kernel_rfl)) k1 bel lt1) trodAll_mk0)), rfl, bel.frame _, fun h => by cases h⟩
theorem over : Rows.lookupFaultsRow.holds Try.pinned (OpenSpec.ofChange Rows.lookupFaultsSpec) :=
 OpenClaim.holds_of_wide 3 Try.f3 rfl rfl rfl rfl rfl rfl rfl ⟨rfl, rfl, rfl, rfl, rfl⟩ rfl rfl rfl rfl rfl (by kernel_rfl) Try.func3 (by kernel_rfl)
  (of_decide_eq_true (by kernel_rfl)) (by unfold Func.isWrapper; first | (rw [if_pos (by decide +kernel)]; kernel_rfl) | (rw [if_neg (by decide +kernel)]; exact ⟨rfl, rfl⟩))
  (fun os started H enc _ => lifted os started H enc)
theorem proved : Rows.LookupFaultsSaid := over
#print axioms proved
end Go.Proofs.Ytkkfclpodgagdaa.lookupFaults
namespace Go.Proofs.Ytkkfclpodgagdaa
theorem lookupFaults_holds : Rows.LookupFaultsSaid := lookupFaults.proved
end Go.Proofs.Ytkkfclpodgagdaa
