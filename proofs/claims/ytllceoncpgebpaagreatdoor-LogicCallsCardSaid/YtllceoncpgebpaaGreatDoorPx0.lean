-- Written by a program of this session (wip/tools/xprint.py), out of the seat's translation. Not trusted: Lean checks it.
import Derived.Test.YtllceoncpgebpaaGreatDoorProg
import Derived.Below
import Derived.Deep.Draws
import Derived.Deep.AppendLies
import Derived.Maps.AppendAt
import Derived.OwnWalk
import Derived.Laws.BytesArg
import Derived.Laws.MakeOwn
import Derived.Laws.OwnMore
import Derived.Deep.OwnRows
import Derived.Tactics
import Derived.Lib.ConvBytes
import Derived.Laws.Slices
import Derived.WalkKit
import Derived.KernelRfl
import Derived.RowKit3
import Derived.Deep.LoopGhost
import Derived.Deep.QuietTactic
import Derived.BigQuiet
import Derived.WideLaws
import Derived.Deep.DeepCutAuto
import Derived.Deep.CutBlock
import Derived.Deep.RegionHeld3
import Derived.Laws.Rows
import Derived.Lib.AppendStr
import Derived.ArgAppend
import Derived.Laws.IdiomCopy
import Derived.OrdersHeld
import Derived.Laws.BitsLemmas
import Derived.RowKit
import Derived.Test.YtllceoncpgebpaaGreatDoorX
import Derived.Test.YtllceoncpgebpaaGreatDoorY
import Derived.Test.YtllceoncpgebpaaGreatDoorZ
import Derived.Test.YtllceoncpgebpaaGreatDoorU
import Derived.Test.YtllceoncpgebpaaGreatDoorWWords
import Derived.Test.YtllceoncpgebpaaGreatDoorWLast
import Derived.Test.YtllceoncpgebpaaGreatDoorWTab
import Derived.Test.YtllceoncpgebpaaGreatDoorWFour
import Derived.Test.YtllceoncpgebpaaGreatDoorWQPut
import Derived.Test.YtllceoncpgebpaaGreatDoorWApart
import Derived.Test.YtllceoncpgebpaaGreatDoorWArr
import Derived.Test.YtllceoncpgebpaaGreatDoorWZeros
import Derived.Test.YtllceoncpgebpaaGreatDoorWFoot
import Derived.Test.YtllceoncpgebpaaGreatDoorWKept
import Derived.Test.YtllceoncpgebpaaGreatDoorWShare
import Derived.Test.YtllceoncpgebpaaGreatDoorWN
import Derived.Test.YtllceoncpgebpaaGreatDoorWFootNe
import Derived.Test.YtllceoncpgebpaaGreatDoorWAt
import Derived.Test.YtllceoncpgebpaaGreatDoorWEqStruct
import Derived.Test.YtllceoncpgebpaaGreatDoorWRepsOne
import Derived.Test.YtllceoncpgebpaaGreatDoorWInv
import Derived.Test.YtllceoncpgebpaaGreatDoorWInvWords
import Derived.Test.YtllceoncpgebpaaGreatDoorWGuard
import Derived.Test.YtllceoncpgebpaaGreatDoorWNEv
import Derived.Test.YtllceoncpgebpaaGreatDoorWMore
namespace Go.Proofs.YtllceoncpgebpaaGreatDoor.P
open Go.RowKit Go.Proofs.YtllceoncpgebpaaGreatDoorW.PrintWords Go.Proofs.YtllceoncpgebpaaGreatDoorW.PrintLast Go.Proofs.YtllceoncpgebpaaGreatDoorW.PrintMore
attribute [local go_sem] max2_int min2_int max_two min_two max_three min_three max_four min_four X.binOp_str_gtr X.binOp_str_leq
set_option linter.unusedVariables false
set_option linter.unusedSimpArgs false
def errW : Option Int → Value
 | none => .nilIface
 | some c => .iface 0 (.int .i64 c)
theorem errW_none : errW none = .nilIface := rfl
theorem errW_some (c : Int) : errW (some c) = .iface 0 (.int .i64 c) := rfl
theorem info5 : (Tryz.prog.info? 5).map (fun i => (i.zero, i.size, i.bytes)) = some (some (.int .u8 0), 1, 1) := by kernel_rfl
theorem zrl {α : Sort _} {a b : α} (h : a = b := by first | rfl | (simp; done) | (simp [*]; done) | (simp [X.bne_nil]; done)) : a = b := h
theorem zdn {w w' : World} (h : Drawn0 w w' := by repeat (first | exact Drawn0.refl _ | apply Drawn0.step)) : Drawn0 w w' := h
theorem zas {p : Prop} (h : p := by first | (with_reducible assumption) | assumption) : p := h
end Go.Proofs.YtllceoncpgebpaaGreatDoor.P
