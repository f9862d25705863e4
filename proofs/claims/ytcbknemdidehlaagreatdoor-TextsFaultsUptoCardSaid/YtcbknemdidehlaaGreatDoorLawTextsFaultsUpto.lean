-- PRINTED (rowc.py)
import Derived.Test.YtcbknemdidehlaaGreatDoorRows
import Derived.Test.YtcbknemdidehlaaGreatDoorFn1
import Derived.Test.YtcbknemdidehlaaGreatDoorCore2
import Derived.WalkKit
import Derived.ProofKit
import Derived.OpenShut
import Derived.ShutString
import Derived.ChangeOld
import Derived.Below
import Derived.SizedLaws
import Derived.LaidMore
import Derived.Lay
import Derived.SevenTiedAt
import Derived.Stop.Joined
import Derived.Deep.DeepHandedRow
import Derived.Test.YtcbknemdidehlaaGreatDoorTie
import Derived.Test.YtcbknemdidehlaaGreatDoorCards
import Derived.HandedShaped
import Derived.Shelf.Vars
namespace Go.Proofs.YtcbknemdidehlaaGreatDoor.textsFaultsUpto
open Go.ChangeShapes Go.WideShapes Go.ChangeAt Go.RowKit
open Go.ChangeMaps (open_string shut_string)
set_option linter.all false
theorem own : ownKnob Tryz.prog.godebug = none := by kernel_rfl
theorem laidOut : laidOutB Tryz.prog = true := by kernel_rfl
def good26 (b : GV) : Prop := ((IntKind.i64.wrap b.k = b.k) ∧ ((IntKind.i64.wrap b.n = b.n) ∧ (b.s.size ≤ 140737488351232)))
def bulk26 (b : GV) : Nat := ((1 + (1 + (b.s.size + 1)))) + 1
theorem opens26 (w : World) : Ab.Opens Tryz.prog w 26 (α := GV) cV good26 bulk26 :=
 Ab.opens_struct (w := w) Tryz.underlying26 (by kernel_rfl) (Ab.opensS_cons (o := 0) (k := 1) (total := 3) (Ab.opens_int Tryz.underlying3) rfl (by kernel_rfl) (Ab.opensS_cons (o := 1) (k := 1) (total := 3) (Ab.opens_int Tryz.underlying3) rfl (by kernel_rfl) (Ab.opensS_one (o := 2) (total := 3) (Ab.opens_string Tryz.underlying9) rfl (by kernel_rfl)))) (fun b : GV => (b.k, b.n, b.s)) (fun a => GV.mk a.1 a.2.1 a.2.2) (fun _ => rfl)
def good35 (b : Ar) : Prop := ((IntKind.i64.wrap b.rows = b.rows) ∧ ((IntKind.i64.wrap b.cols = b.cols) ∧ ((b.l.length * 32 ≤ 140737488351232 ∧ b.l.length ≤ 9223372036854775807 ∧ ∀ x ∈ b.l, (good26 x)) ∧ True)))
def bulk35 (b : Ar) : Nat := ((1 + (1 + (((b.l.map (fun x => (bulk26 x))).sum + 1) + 1)))) + 1
theorem opens35 (w : World) : Ab.Opens Tryz.prog w 35 (α := Ar) cA good35 bulk35 :=
 Ab.opens_struct (w := w) Tryz.underlying35 (by kernel_rfl) (Ab.opensS_cons (o := 0) (k := 1) (total := 4) (Ab.opens_int Tryz.underlying3) rfl (by kernel_rfl) (Ab.opensS_cons (o := 1) (k := 1) (total := 4) (Ab.opens_int Tryz.underlying3) rfl (by kernel_rfl) (Ab.opensS_cons (o := 2) (k := 1) (total := 4) (Ab.opens_slice Tryz.underlying33 3 (by decide) (by kernel_rfl) (fun _ => rfl) (opens26 _) 32 (by kernel_rfl)) rfl (by kernel_rfl) (Ab.opensS_one (o := 3) (total := 4) (Ab.opens_bool Tryz.underlying4) rfl (by kernel_rfl))))) (fun b : Ar => (b.rows, b.cols, b.l, b.many)) (fun a => Ar.mk a.1 a.2.1 a.2.2.1 a.2.2.2) (fun _ => rfl)
theorem gk_of {W : World} (h : W.ShapedOpen Tryz.prog) : Ab.Gk (Ab.memW W) := by
 intro g hg
 have hg : g ∈ ([0] : List Nat) := hg
 simp only [List.mem_cons, List.not_mem_nil, or_false] at hg
 subst hg
 ·exact cell_of_shapedOpen_int (zero := #[.int .i64 0]) (t := 3) h (of_decide_eq_true (by kernel_rfl)) (by kernel_rfl) rfl (by kernel_rfl) (by kernel_rfl) Tryz.underlying3
theorem reads (os : Os) {H : Type} (enc : TypeId × Value → H) : DataW.whole enc Tryz.prog ((World.laidAll Tryz.prog os Rows.textsFaultsUptoRow.laid).forCall (fun _ _ => 0) ⟨#[], #[.string ByteArray.empty, .slice none 0 0], []⟩).memory Tryz.f3.params.toList (Rows.OpenSpec.upto Rows.textsFaultsSpec).vars false #[.string ByteArray.empty, .slice none 0 0].toList 8 = some ([.lit (.string []), .nil], [], []) := by kernel_rfl
set_option maxRecDepth 100000 in
theorem lifted (os : Os) (started : os.Started) (H : Type) (enc : TypeId × Value → H) (F : Stop.Interp) :
  ReturnsInHanded {} Tryz.checked os 3 .any ((Rows.OpenSpec.upto Rows.textsFaultsSpec).preRow enc Tryz.prog Tryz.f3 Rows.textsFaultsUptoRow.domain false Rows.textsFaultsUptoRow.laid) (((Rows.OpenSpec.upto Rows.textsFaultsSpec).at F).post enc Tryz.prog Tryz.f3 false true false false) := by
 refine returnsInHanded_of_row (C := Tryz.checked) (s := (Rows.OpenSpec.upto Rows.textsFaultsSpec)) own started (by kernel_rfl) Tryz.func3
  ⟨World.laidAll Tryz.prog os Rows.textsFaultsUptoRow.laid, fun _ _ => 0, ⟨#[], #[.string ByteArray.empty, .slice none 0 0], []⟩, World.laidAll_os _ _ _, World.shaped_of_ZipB (by kernel_rfl) (by kernel_rfl), rfl, (Input.okWide_of_okWideB (by kernel_rfl)).2,
   OpenSpec.preRow_of_cond 8 (reads os enc) (by kernel_rfl) (fun k hk => by cases hk; kernel_rfl) (by kernel_rfl) (by rw [MakeChecks.laidMetH_plain _ _ _ (by kernel_rfl)]; exact laidMet_laidAll _ (by kernel_rfl) (by kernel_rfl)), by
    simp only [Assume.holds]
    exact ⟨by simp, by simp, fun _ => Modest.zero, by simp, by simp⟩⟩ ?_
 intro W base args ds gs before hval0 hW hcnd hcond hsz0 _ hsh _
 have hbk0 := hcond _ rfl
 have hsz : (DataW.weightsEach Tryz.prog (Tryz.f3.params.toList ++ (Rows.OpenSpec.upto Rows.textsFaultsSpec).bare.plain.varTypes Tryz.prog) (ds ++ gs)).all (· ≤ reachBytes) = true := hsz0
 have hval : ∀ (j : Nat) t v, Tryz.f3.params[j]? = some t → args[j]? = some v → Value.okWide Tryz.prog W .any base t v := hval0
 have hW' := hW
 obtain ⟨p, q, hA0, hV, rfl, hfz, hnd⟩ := hW
 have hA : DataW.TrodAll enc Tryz.prog W 0 (fun _ => true) true Tryz.f3.params.toList args.toList ds p := hA0
 rw [Tryz.params3] at hA hval hsz
 obtain ⟨v0, vs0, d0, ds0, p0, q0, hargs, rfl, rfl, h0, r0⟩ := trodAll_cons hA
 obtain ⟨v1, vs1, d1, ds1, p1, q1, rfl, rfl, rfl, h1, r1⟩ := trodAll_cons r0
 obtain ⟨rfl, rfl, rfl⟩ := trodAll_nil r1
 obtain rfl : args = #[v0, v1] := by cases args; simp_all
 obtain ⟨rfl, rfl⟩ := trodVars_none hV
 have k0 := h0
 have lt0 : ∀ x ∈ p0, x.block < W.heap.size := by obtain ⟨m, hm⟩ := k0; exact DataW.trod_lt m _ _ _ hm
 have wz0 : ∀ n ∈ d0.weights Tryz.prog 9, n ≤ reachBytes := fun n hn => of_decide_eq_true (List.all_eq_true.1 hsz _ (DataW.weights_mem_each (j := 0) (t := 9) rfl rfl n hn))
 obtain ⟨f0, hf0⟩ := h0
 obtain ⟨x0, K0, g0, b0⟩ := (Ab.opens_string Tryz.underlying9) H enc _ _ f0 _ _ hf0 wz0
 obtain ⟨z0, rfl⟩ := okWide_string Tryz.underlying9 (hval 0 9 v0 rfl rfl)
 have R0 := Ab.repL_head K0
 have k1 := h1
 have lt1 : ∀ x ∈ p1, x.block < W.heap.size := by obtain ⟨m, hm⟩ := k1; exact DataW.trod_lt m _ _ _ hm
 have wz1 : ∀ n ∈ d1.weights Tryz.prog 22, n ≤ reachBytes := fun n hn => of_decide_eq_true (List.all_eq_true.1 hsz _ (DataW.weights_mem_each (j := 1) (t := 22) rfl rfl n hn))
 obtain ⟨f1, hf1⟩ := h1
 obtain ⟨x1, K1, g1, b1⟩ := (Ab.opens_slice Tryz.underlying22 4 (by decide) (by kernel_rfl) (fun _ => rfl) (opens35 _) 48 (by kernel_rfl)) H enc _ _ f1 _ _ hf1 wz1
 obtain ⟨sa1, len1, cap1, rfl⟩ := okWide_slice Tryz.underlying22 (hval 1 22 v1 rfl rfl)
 have R1 := Ab.repL_head K1
 have e0_ : (x0.size + 1) ≤ Rows.uptoBulk d0 := b0
 have e1_ : ((x1.map (fun x => (bulk35 x))).sum + 1) ≤ Rows.uptoBulk d1 := b1
 have hbk1 := of_decide_eq_true hbk0
 simp only [List.append_nil, Rows.uptoBulkAll] at hbk1
 have hbk : (x0.size + 1) + ((x1.map (fun x => (bulk35 x))).sum + 1) ≤ 1048576 := by omega
 clear hA0 hval0 hsz0 hsz
 refine (Ab.Ret.law (textsFaults_ret x0 x1 g0 g1 hbk) (gk_of hsh) (Ab.repL_cons R0 (Ab.repL_cons R1 Ab.repL_nil)) Tryz.call3).mono fun e W' ⟨he, bel⟩ => ?_
 subst he
 exact ⟨_, rfl, _, _, _, [], _, [], hW', trodAll_mk1 (shut_bool Tryz.underlying4 _), (trodAll_cons_mk (Below.trod laidOut (by kernel_rfl) (of_decide_eq_true (by kernel_rfl)) k0 bel lt0) (trodAll_cons_mk (Below.trod laidOut (by kernel_rfl) (of_decide_eq_true (by kernel_rfl)) k1 bel lt1) trodAll_mk0)), rfl, bel.frame _, fun h => by cases h⟩
theorem over : Rows.TextsFaultsUptoSaid :=
 OpenClaim.holds_of_cond 3 Tryz.f3 rfl rfl rfl rfl rfl rfl rfl ⟨rfl, rfl, rfl, rfl, rfl⟩ rfl rfl rfl rfl rfl (by kernel_rfl) Tryz.func3 (by kernel_rfl)
  (of_decide_eq_true (by kernel_rfl)) (by unfold Func.isWrapper; first | (rw [if_pos (by decide +kernel)]; kernel_rfl) | (rw [if_neg (by decide +kernel)]; exact ⟨rfl, rfl⟩))
  (fun os started H enc _ F => by rw [OpenClaim.pre_eq_preRow]; exact lifted os started H enc F)
theorem plain (f : FuncId) (fn : Func) (hf : Tryz.pinned.checked.prog.funcNamed "octavo/octavolaw18.TextsFaults" = some f) (hfn : Tryz.pinned.checked.prog.funcs[f]? = some fn) :
  true = Tryz.pinned.checked.prog.looks [] ∧ ∀ (j : Nat) t, fn.params[j]? = some t → Tryz.pinned.checked.prog.wantsStandIn t = false := by
 obtain rfl : f = 3 := Option.some.inj ((show Tryz.prog.funcNamed "octavo/octavolaw18.TextsFaults" = some 3 by kernel_rfl).symm.trans hf) |>.symm
 obtain rfl : fn = Tryz.f3 := (Option.some.inj (Tryz.func3.symm.trans hfn)).symm
 refine ⟨by kernel_rfl, fun j t ht => ?_⟩
 have hall : (Tryz.f3.params.toList.all fun u => !Tryz.prog.wantsStandIn u) = true := by kernel_rfl
 have hm : t ∈ Tryz.f3.params.toList := Array.mem_toList_iff.2 (Array.mem_of_getElem? ht)
 exact (show Tryz.prog.wantsStandIn t = false by simpa using List.all_eq_true.1 hall t hm)
theorem card : Rows.TextsFaultsUptoCardSaid :=
 Claim7.holds_tied_plain_at .later [] _ _ _ _ over (fun _ h => by cases h) (by kernel_rfl) (fun _ h => by cases h) textsFaultsUpto_row_tie rfl ⟨rfl, rfl⟩ (by kernel_rfl) rfl plain (by kernel_rfl)
#print axioms card
end Go.Proofs.YtcbknemdidehlaaGreatDoor.textsFaultsUpto
namespace Go.Proofs.YtcbknemdidehlaaGreatDoor
theorem textsFaults_uptocard : Rows.TextsFaultsUptoCardSaid := textsFaultsUpto.card
end Go.Proofs.YtcbknemdidehlaaGreatDoor
