-- PRINTED (rowc.py)
import Derived.Test.YtlognebkifjfbaaRows
import Derived.Test.YtlognebkifjfbaaFn
import Derived.Test.YtlognebkifjfbaaCore1
import Derived.WalkKit
import Derived.ProofKit
import Derived.OpenShut
import Derived.ShutString
import Derived.ChangeOld
import Derived.Below
import Derived.SizedLaws
namespace Go.Proofs.Ytlognebkifjfbaa.filesNone
open Go.ChangeShapes Go.WideShapes Go.ChangeAt Go.RowKit
open Go.ChangeMaps (open_string shut_string)
set_option linter.all false
theorem own : ownKnob Try.prog.godebug = none := by kernel_rfl
theorem laidOut : laidOutB Try.prog = true := by kernel_rfl
def good37 (b : Act) : Prop := ((IntKind.i64.wrap b.kind = b.kind) ∧ ((b.a.size ≤ 140737488351232) ∧ ((b.b.size ≤ 140737488351232) ∧ ((IntKind.i64.wrap b.n = b.n) ∧ ((IntKind.i64.wrap b.m = b.m) ∧ (b.data.length * 1 ≤ 140737488351232 ∧ b.data.length ≤ 9223372036854775807 ∧ ∀ x ∈ b.data, (IntKind.u8.wrap x = x)))))))
def bulk37 (b : Act) : Nat := ((1 + ((b.a.size + 1) + ((b.b.size + 1) + (1 + (1 + ((b.data.map (fun x => 1)).sum + 1))))))) + 1
theorem opens37 (w : World) : Ab.Opens Try.prog w 37 (α := Act) cAct good37 bulk37 :=
  Ab.opens_struct (w := w) Try.underlying37 (by kernel_rfl) (Ab.opensS_cons (o := 0) (k := 1) (total := 6) (Ab.opens_int Try.underlying3) rfl (by kernel_rfl) (Ab.opensS_cons (o := 1) (k := 1) (total := 6) (Ab.opens_string Try.underlying9) rfl (by kernel_rfl) (Ab.opensS_cons (o := 2) (k := 1) (total := 6) (Ab.opens_string Try.underlying9) rfl (by kernel_rfl) (Ab.opensS_cons (o := 3) (k := 1) (total := 6) (Ab.opens_int Try.underlying3) rfl (by kernel_rfl) (Ab.opensS_cons (o := 4) (k := 1) (total := 6) (Ab.opens_int Try.underlying3) rfl (by kernel_rfl) (Ab.opensS_one (o := 5) (total := 6) (Ab.opens_slice Try.underlying24 1 (by decide) (by kernel_rfl) (fun _ => rfl) (Ab.opens_int Try.underlying5) 1 (by kernel_rfl)) rfl (by kernel_rfl))))))) (fun b : Act => (b.kind, b.a, b.b, b.n, b.m, b.data)) (fun a => Act.mk a.1 a.2.1 a.2.2.1 a.2.2.2.1 a.2.2.2.2.1 a.2.2.2.2.2) (fun _ => rfl)
set_option maxRecDepth 100000 in
theorem lifted (os : Os) (started : os.Started) (H : Type) (enc : TypeId × Value → H) :
    ReturnsInHanded {} Try.checked os 8 .any (Rows.filesNoneSpec.pre6 enc Try.prog Try.f8 Rows.filesNoneRow.domain false) (Rows.filesNoneSpec.post enc Try.prog Try.f8 false true false false) := by
  refine returnsInHanded_of_change_sized (C := Try.checked) own started (by kernel_rfl) Try.func8
    (ChangeSpec.witness6 (enc := enc) (C := Try.checked) false ⟨#[], #[.agg #[.int .i64 0, .string ByteArray.empty, .string ByteArray.empty, .int .i64 0, .int .i64 0, .slice none 0 0]], []⟩ 8 (by kernel_rfl) (by kernel_rfl) (by kernel_rfl) (by kernel_rfl)) ?_
  intro W base args ds gs before hval0 hW hcnd hsz0 _
  have hsz : (DataW.weightsEach Try.prog (Try.f8.params.toList ++ Rows.filesNoneSpec.plain.varTypes Try.prog) (ds ++ gs)).all (· ≤ reachBytes) = true := hsz0
  have hval : ∀ (j : Nat) t v, Try.f8.params[j]? = some t → args[j]? = some v → Value.okWide Try.prog W .any base t v := hval0
  have hW' := hW
  obtain ⟨p, q, hA0, hV, rfl, hfz, hnd⟩ := hW
  have hA : DataW.TrodAll enc Try.prog W 0 (fun _ => true) true Try.f8.params.toList args.toList ds p := hA0
  rw [Try.params8] at hA hval hsz
  obtain ⟨v0, vs0, d0, ds0, p0, q0, hargs, rfl, rfl, h0, r0⟩ := trodAll_cons hA
  obtain ⟨rfl, rfl, rfl⟩ := trodAll_nil r0
  obtain rfl : args = #[v0] := by cases args; simp_all
  obtain ⟨rfl, rfl⟩ := trodVars_none hV
  have k0 := h0
  have lt0 : ∀ x ∈ p0, x.block < W.heap.size := by obtain ⟨m, hm⟩ := k0; exact DataW.trod_lt m _ _ _ hm
  have wz0 : ∀ n ∈ d0.weights Try.prog 37, n ≤ reachBytes := fun n hn => of_decide_eq_true (List.all_eq_true.1 hsz _ (DataW.weights_mem_each (j := 0) (t := 37) rfl rfl n hn))
  obtain ⟨f0, hf0⟩ := h0
  obtain ⟨x0, K0, g0, b0⟩ := (opens37 _) H enc _ _ f0 _ _ hf0 wz0
  obtain ⟨cs0, rfl, _⟩ := okWide_struct Try.underlying37 (hval 0 37 v0 rfl rfl)
  have R0 : Ab.Rep (Ab.memW W) [] (.agg (cAct x0)) (.agg cs0) := by have := Ab.Rep.agg (m := Ab.memW W) [] (cAct x0) cs0.toList K0.1 K0.2; rwa [Array.toArray_toList] at this
  clear hA0 hval0 hsz0 hsz
  refine (Ab.Ret.law (filesNone_ret x0 ) (Ab.repL_cons R0 Ab.repL_nil) Try.call8).mono fun e W' ⟨he, bel⟩ => ?_
  subst he
  exact ⟨_, rfl, _, _, _, [], _, [], hW', trodAll_mk1 (shut_bool Try.underlying4 _), (trodAll_cons_mk (Below.trod laidOut (by kernel_rfl) (of_decide_eq_true (by kernel_rfl)) k0 bel lt0) trodAll_mk0), rfl, bel.frame _, fun h => by cases h⟩
theorem over : Rows.filesNoneRow.holds Try.pinned (OpenSpec.ofChange Rows.filesNoneSpec) :=
  OpenClaim.holds_of_wide 8 Try.f8 rfl rfl rfl rfl rfl rfl rfl ⟨rfl, rfl, rfl, rfl, rfl⟩ rfl rfl rfl rfl rfl (by kernel_rfl) Try.func8 (by kernel_rfl)
    (of_decide_eq_true (by kernel_rfl)) (by unfold Func.isWrapper; first | (rw [if_pos (by decide +kernel)]; kernel_rfl) | (rw [if_neg (by decide +kernel)]; exact ⟨rfl, rfl⟩))
    (fun os started H enc _ => lifted os started H enc)
theorem proved : Rows.FilesNoneSaid := over
#print axioms proved
end Go.Proofs.Ytlognebkifjfbaa.filesNone
namespace Go.Proofs.Ytlognebkifjfbaa
/-- The row, under a short name, for the claim. -/
theorem filesNone_holds : Rows.FilesNoneSaid := filesNone.proved
end Go.Proofs.Ytlognebkifjfbaa
