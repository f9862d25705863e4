-- Written by a program of this session (wip/tools/xprint.py), out of the seat's translation. Not trusted: Lean checks it.
import Derived.Test.YtkkfclpodgagdaaProg
import Derived.Below
import Derived.Deep.Draws
import Derived.Deep.AppendLies
import Derived.Maps.AppendAt
import Derived.OwnWalk
import Derived.Laws.BytesArg
import Derived.Laws.MakeOwn
import Derived.Laws.OwnMore
import Derived.Deep.OwnRows
import Derived.Tactics
import Derived.Lib.ConvBytes
import Derived.Laws.Slices
import Derived.WalkKit
import Derived.KernelRfl
import Derived.RowKit3
import Derived.Deep.LoopGhost
import Derived.Deep.QuietTactic
import Derived.BigQuiet
import Derived.WideLaws
import Derived.Deep.DeepCutAuto
import Derived.Deep.CutBlock
import Derived.Deep.RegionHeld3
import Derived.Laws.Rows
import Derived.Lib.AppendStr
import Derived.ArgAppend
import Derived.Laws.IdiomCopy
import Derived.OrdersHeld
import Derived.Laws.BitsLemmas
import Derived.RowKit
import Derived.Test.YtkkfclpodgagdaaX
import Derived.Test.YtkkfclpodgagdaaY
import Derived.Test.YtkkfclpodgagdaaZ
import Derived.Test.YtkkfclpodgagdaaU
import Derived.Test.YtkkfclpodgagdaaWWords
import Derived.Test.YtkkfclpodgagdaaWLast
import Derived.Test.YtkkfclpodgagdaaWTab
import Derived.Test.YtkkfclpodgagdaaWFour
import Derived.Test.YtkkfclpodgagdaaWQPut
import Derived.Test.YtkkfclpodgagdaaWApart
import Derived.Test.YtkkfclpodgagdaaWArr
import Derived.Test.YtkkfclpodgagdaaWZeros
import Derived.Test.YtkkfclpodgagdaaWFoot
import Derived.Test.YtkkfclpodgagdaaWKept
import Derived.Test.YtkkfclpodgagdaaWShare
import Derived.Test.YtkkfclpodgagdaaWN
import Derived.Test.YtkkfclpodgagdaaWFootNe
import Derived.Test.YtkkfclpodgagdaaWAt
import Derived.Test.YtkkfclpodgagdaaWEqStruct
import Derived.Test.YtkkfclpodgagdaaWRepsOne
import Derived.Test.YtkkfclpodgagdaaWInv
import Derived.Test.YtkkfclpodgagdaaWInvWords
import Derived.Test.YtkkfclpodgagdaaWGuard
import Derived.Test.YtkkfclpodgagdaaWNEv
import Derived.Test.YtkkfclpodgagdaaWMore
namespace Go.Proofs.Ytkkfclpodgagdaa.P
open Go.RowKit Go.Proofs.YtkkfclpodgagdaaW.PrintWords Go.Proofs.YtkkfclpodgagdaaW.PrintLast Go.Proofs.YtkkfclpodgagdaaW.PrintMore
attribute [local go_sem] max2_int min2_int max_two min_two max_three min_three max_four min_four X.binOp_str_gtr X.binOp_str_leq
set_option linter.unusedVariables false
set_option linter.unusedSimpArgs false
def errW : Option Int → Value
 | none => .nilIface
 | some c => .iface 0 (.int .i64 c)
theorem errW_none : errW none = .nilIface := rfl
theorem errW_some (c : Int) : errW (some c) = .iface 0 (.int .i64 c) := rfl
theorem zrl {α : Sort _} {a b : α} (h : a = b := by first | rfl | (simp; done) | (simp [*]; done) | (simp [X.bne_nil]; done)) : a = b := h
theorem zdn {w w' : World} (h : Drawn0 w w' := by repeat (first | exact Drawn0.refl _ | apply Drawn0.step)) : Drawn0 w w' := h
theorem zas {p : Prop} (h : p := by first | (with_reducible assumption) | assumption) : p := h
end Go.Proofs.Ytkkfclpodgagdaa.P
