-- Written by a program of this session (wip/tools/xprint.py), out of the seat's translation. Not trusted: Lean checks it.
import Derived.Test.YtnpcmgajplikbaaGreatDoorProg
import Derived.Below
import Derived.Deep.Draws
import Derived.Deep.AppendLies
import Derived.Maps.AppendAt
import Derived.OwnWalk
import Derived.Laws.BytesArg
import Derived.Laws.MakeOwn
import Derived.Laws.OwnMore
import Derived.Deep.OwnRows
import Derived.Tactics
import Derived.Lib.ConvBytes
import Derived.Laws.Slices
import Derived.WalkKit
import Derived.KernelRfl
import Derived.RowKit3
import Derived.Deep.LoopGhost
import Derived.Deep.QuietTactic
import Derived.BigQuiet
import Derived.WideLaws
import Derived.Deep.DeepCutAuto
import Derived.Deep.CutBlock
import Derived.Deep.RegionHeld3
import Derived.Laws.Rows
import Derived.Lib.AppendStr
import Derived.ArgAppend
import Derived.Laws.IdiomCopy
import Derived.OrdersHeld
import Derived.Laws.BitsLemmas
import Derived.RowKit
import Derived.Test.YtnpcmgajplikbaaGreatDoorX
import Derived.Test.YtnpcmgajplikbaaGreatDoorY
import Derived.Test.YtnpcmgajplikbaaGreatDoorZ
import Derived.Test.YtnpcmgajplikbaaGreatDoorU
import Derived.Test.YtnpcmgajplikbaaGreatDoorWWords
import Derived.Test.YtnpcmgajplikbaaGreatDoorWLast
import Derived.Test.YtnpcmgajplikbaaGreatDoorWTab
import Derived.Test.YtnpcmgajplikbaaGreatDoorWFour
import Derived.Test.YtnpcmgajplikbaaGreatDoorWQPut
import Derived.Test.YtnpcmgajplikbaaGreatDoorWApart
import Derived.Test.YtnpcmgajplikbaaGreatDoorWArr
import Derived.Test.YtnpcmgajplikbaaGreatDoorWZeros
import Derived.Test.YtnpcmgajplikbaaGreatDoorWFoot
import Derived.Test.YtnpcmgajplikbaaGreatDoorWKept
import Derived.Test.YtnpcmgajplikbaaGreatDoorWShare
import Derived.Test.YtnpcmgajplikbaaGreatDoorWN
import Derived.Test.YtnpcmgajplikbaaGreatDoorWFootNe
import Derived.Test.YtnpcmgajplikbaaGreatDoorWAt
import Derived.Test.YtnpcmgajplikbaaGreatDoorWEqStruct
import Derived.Test.YtnpcmgajplikbaaGreatDoorWRepsOne
import Derived.Test.YtnpcmgajplikbaaGreatDoorWInv
import Derived.Test.YtnpcmgajplikbaaGreatDoorWInvWords
import Derived.Test.YtnpcmgajplikbaaGreatDoorWGuard
import Derived.Test.YtnpcmgajplikbaaGreatDoorWNEv
import Derived.Test.YtnpcmgajplikbaaGreatDoorWMore
namespace Go.Proofs.YtnpcmgajplikbaaGreatDoor.P
open Go.RowKit Go.Proofs.YtnpcmgajplikbaaGreatDoorW.PrintWords Go.Proofs.YtnpcmgajplikbaaGreatDoorW.PrintLast Go.Proofs.YtnpcmgajplikbaaGreatDoorW.PrintMore
attribute [local go_sem] max2_int min2_int max_two min_two max_three min_three max_four min_four X.binOp_str_gtr X.binOp_str_leq   -- for this text's walks alone
set_option linter.unusedVariables false
set_option linter.unusedSimpArgs false



def errW : Option Int → Value
  | none => .nilIface
  | some c => .iface 0 (.int .i64 c)
theorem errW_none : errW none = .nilIface := rfl
theorem errW_some (c : Int) : errW (some c) = .iface 0 (.int .i64 c) := rfl

theorem info5 : (Tryz.prog.info? 5).map (fun i => (i.zero, i.size, i.bytes)) = some (some (.int .u8 0), 1, 1) := by kernel_rfl
-- the values' own types

end Go.Proofs.YtnpcmgajplikbaaGreatDoor.P
