-- PRINTED (rowc.py)
import Derived.Test.YtkkfclpodgagdaaRows
import Derived.Test.YtkkfclpodgagdaaFn
import Derived.Test.YtkkfclpodgagdaaCore1
import Derived.WalkKit
import Derived.ProofKit
import Derived.OpenShut
import Derived.ShutString
import Derived.ChangeOld
import Derived.Below
import Derived.SizedLaws
namespace Go.Proofs.Ytkkfclpodgagdaa.lookupCounts
open Go.ChangeShapes Go.WideShapes Go.ChangeAt Go.RowKit
open Go.ChangeMaps (open_string shut_string)
set_option linter.all false
theorem own : ownKnob Try.prog.godebug = none := by kernel_rfl
theorem laidOut : laidOutB Try.prog = true := by kernel_rfl
def good26 (b : GV) : Prop := ((IntKind.i64.wrap b.k = b.k) ∧ ((IntKind.i64.wrap b.n = b.n) ∧ (b.s.size ≤ 140737488351232)))
def bulk26 (b : GV) : Nat := ((1 + (1 + (b.s.size + 1)))) + 1
theorem opens26 (w : World) : Ab.Opens Try.prog w 26 (α := GV) cV good26 bulk26 :=
 Ab.opens_struct (w := w) Try.underlying26 (by kernel_rfl) (Ab.opensS_cons (o := 0) (k := 1) (total := 3) (Ab.opens_int Try.underlying3) rfl (by kernel_rfl) (Ab.opensS_cons (o := 1) (k := 1) (total := 3) (Ab.opens_int Try.underlying3) rfl (by kernel_rfl) (Ab.opensS_one (o := 2) (total := 3) (Ab.opens_string Try.underlying9) rfl (by kernel_rfl)))) (fun b : GV => (b.k, b.n, b.s)) (fun a => GV.mk a.1 a.2.1 a.2.2) (fun _ => rfl)
set_option maxRecDepth 100000 in
theorem lifted (os : Os) (started : os.Started) (H : Type) (enc : TypeId × Value → H) :
  ReturnsInHanded {} Try.checked os 6 .any (Rows.lookupCountsSpec.pre6 enc Try.prog Try.f6 Rows.lookupCountsRow.domain false) (Rows.lookupCountsSpec.post enc Try.prog Try.f6 false true false false) := by
 refine returnsInHanded_of_change_sized (C := Try.checked) own started (by kernel_rfl) Try.func6
  (ChangeSpec.witness6 (enc := enc) (C := Try.checked) false ⟨#[], #[.slice none 0 0], []⟩ 8 (by kernel_rfl) (by kernel_rfl) (by kernel_rfl) (by kernel_rfl)) ?_
 intro W base args ds gs before hval0 hW hcnd hsz0 _
 have hsz : (DataW.weightsEach Try.prog (Try.f6.params.toList ++ Rows.lookupCountsSpec.plain.varTypes Try.prog) (ds ++ gs)).all (· ≤ reachBytes) = true := hsz0
 have hval : ∀ (j : Nat) t v, Try.f6.params[j]? = some t → args[j]? = some v → Value.okWide Try.prog W .any base t v := hval0
 have hW' := hW
 obtain ⟨p, q, hA0, hV, rfl, hfz, hnd⟩ := hW
 have hA : DataW.TrodAll enc Try.prog W 0 (fun _ => true) true Try.f6.params.toList args.toList ds p := hA0
 rw [Try.params6] at hA hval hsz
 obtain ⟨v0, vs0, d0, ds0, p0, q0, hargs, rfl, rfl, h0, r0⟩ := trodAll_cons hA
 obtain ⟨rfl, rfl, rfl⟩ := trodAll_nil r0
 obtain rfl : args = #[v0] := by cases args; simp_all
 obtain ⟨rfl, rfl⟩ := trodVars_none hV
 have k0 := h0
 have lt0 : ∀ x ∈ p0, x.block < W.heap.size := by obtain ⟨m, hm⟩ := k0; exact DataW.trod_lt m _ _ _ hm
 have wz0 : ∀ n ∈ d0.weights Try.prog 32, n ≤ reachBytes := fun n hn => of_decide_eq_true (List.all_eq_true.1 hsz _ (DataW.weights_mem_each (j := 0) (t := 32) rfl rfl n hn))
 obtain ⟨f0, hf0⟩ := h0
 obtain ⟨x0, K0, g0, b0⟩ := (Ab.opens_slice Try.underlying32 3 (by decide) (by kernel_rfl) (fun _ => rfl) (opens26 _) 32 (by kernel_rfl)) H enc _ _ f0 _ _ hf0 wz0
 obtain ⟨sa0, len0, cap0, rfl⟩ := okWide_slice Try.underlying32 (hval 0 32 v0 rfl rfl)
 have R0 := Ab.repL_head K0
 clear hA0 hval0 hsz0 hsz
 refine (Ab.Ret.law (lookupCounts_ret x0 g0) (Ab.repL_cons R0 Ab.repL_nil) Try.call6).mono fun e W' ⟨he, bel⟩ => ?_
 subst he
 exact ⟨_, rfl, _, _, _, [], _, [], hW', trodAll_mk1 (shut_bool Try.underlying4 _), (trodAll_cons_mk (Below.trod laidOut (by kernel_rfl) (of_decide_eq_true (by kernel_rfl)) k0 bel lt0) trodAll_mk0), rfl, bel.frame _, fun h => by cases h⟩
theorem over : Rows.lookupCountsRow.holds Try.pinned (OpenSpec.ofChange Rows.lookupCountsSpec) :=
 OpenClaim.holds_of_wide 6 Try.f6 rfl rfl rfl rfl rfl rfl rfl ⟨rfl, rfl, rfl, rfl, rfl⟩ rfl rfl rfl rfl rfl (by kernel_rfl) Try.func6 (by kernel_rfl)
  (of_decide_eq_true (by kernel_rfl)) (by unfold Func.isWrapper; first | (rw [if_pos (by decide +kernel)]; kernel_rfl) | (rw [if_neg (by decide +kernel)]; exact ⟨rfl, rfl⟩))
  (fun os started H enc _ => lifted os started H enc)
theorem proved : Rows.LookupCountsSaid := over
#print axioms proved
end Go.Proofs.Ytkkfclpodgagdaa.lookupCounts
namespace Go.Proofs.Ytkkfclpodgagdaa
theorem lookupCounts_holds : Rows.LookupCountsSaid := lookupCounts.proved
end Go.Proofs.Ytkkfclpodgagdaa
