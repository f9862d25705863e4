-- Written by a program of this session (wip/tools/xprint.py), out of the seat's translation. Not trusted: Lean checks it.
import Derived.Test.YtcbknemdidehlaaGreatDoorProg
import Derived.Below
import Derived.Deep.Draws
import Derived.Deep.AppendLies
import Derived.Maps.AppendAt
import Derived.OwnWalk
import Derived.Laws.BytesArg
import Derived.Laws.MakeOwn
import Derived.Laws.OwnMore
import Derived.Deep.OwnRows
import Derived.Tactics
import Derived.Lib.ConvBytes
import Derived.Laws.Slices
import Derived.WalkKit
import Derived.KernelRfl
import Derived.RowKit3
import Derived.Deep.LoopGhost
import Derived.Deep.QuietTactic
import Derived.BigQuiet
import Derived.WideLaws
import Derived.Deep.DeepCutAuto
import Derived.Deep.CutBlock
import Derived.Deep.RegionHeld3
import Derived.Laws.Rows
import Derived.Lib.AppendStr
import Derived.ArgAppend
import Derived.Laws.IdiomCopy
import Derived.OrdersHeld
import Derived.Laws.BitsLemmas
import Derived.RowKit
import Derived.Test.YtcbknemdidehlaaGreatDoorX
import Derived.Test.YtcbknemdidehlaaGreatDoorY
import Derived.Test.YtcbknemdidehlaaGreatDoorZ
import Derived.Test.YtcbknemdidehlaaGreatDoorU
import Derived.Test.YtcbknemdidehlaaGreatDoorWWords
import Derived.Test.YtcbknemdidehlaaGreatDoorWLast
import Derived.Test.YtcbknemdidehlaaGreatDoorWTab
import Derived.Test.YtcbknemdidehlaaGreatDoorWFour
import Derived.Test.YtcbknemdidehlaaGreatDoorWQPut
import Derived.Test.YtcbknemdidehlaaGreatDoorWApart
import Derived.Test.YtcbknemdidehlaaGreatDoorWArr
import Derived.Test.YtcbknemdidehlaaGreatDoorWZeros
import Derived.Test.YtcbknemdidehlaaGreatDoorWFoot
import Derived.Test.YtcbknemdidehlaaGreatDoorWKept
import Derived.Test.YtcbknemdidehlaaGreatDoorWShare
import Derived.Test.YtcbknemdidehlaaGreatDoorWN
import Derived.Test.YtcbknemdidehlaaGreatDoorWFootNe
import Derived.Test.YtcbknemdidehlaaGreatDoorWAt
import Derived.Test.YtcbknemdidehlaaGreatDoorWEqStruct
import Derived.Test.YtcbknemdidehlaaGreatDoorWRepsOne
import Derived.Test.YtcbknemdidehlaaGreatDoorWInv
import Derived.Test.YtcbknemdidehlaaGreatDoorWInvWords
import Derived.Test.YtcbknemdidehlaaGreatDoorWGuard
import Derived.Test.YtcbknemdidehlaaGreatDoorWNEv
import Derived.Test.YtcbknemdidehlaaGreatDoorWMore
namespace Go.Proofs.YtcbknemdidehlaaGreatDoor.P
open Go.RowKit Go.Proofs.YtcbknemdidehlaaGreatDoorW.PrintWords Go.Proofs.YtcbknemdidehlaaGreatDoorW.PrintLast Go.Proofs.YtcbknemdidehlaaGreatDoorW.PrintMore
attribute [local go_sem] max2_int min2_int max_two min_two max_three min_three max_four min_four X.binOp_str_gtr X.binOp_str_leq
set_option linter.unusedVariables false
set_option linter.unusedSimpArgs false
def errW : Option Int → Value
 | none => .nilIface
 | some c => .iface 0 (.int .i64 c)
theorem errW_none : errW none = .nilIface := rfl
theorem errW_some (c : Int) : errW (some c) = .iface 0 (.int .i64 c) := rfl
theorem info5 : (Tryz.prog.info? 5).map (fun i => (i.zero, i.size, i.bytes)) = some (some (.int .u8 0), 1, 1) := by kernel_rfl
theorem zrl {α : Sort _} {a b : α} (h : a = b := by first | rfl | (simp; done) | (simp [*]; done) | (simp [X.bne_nil]; done)) : a = b := h
theorem zdn {w w' : World} (h : Drawn0 w w' := by repeat (first | exact Drawn0.refl _ | apply Drawn0.step)) : Drawn0 w w' := h
theorem zas {p : Prop} (h : p := by first | (with_reducible assumption) | assumption) : p := h
end Go.Proofs.YtcbknemdidehlaaGreatDoor.P
