-- Written by a program of this session (wip/tools/xprint.py), out of the seat's translation. Not trusted: Lean checks it.
import Derived.Test.YtemelfcpmbcnaaaProg
import Derived.Below
import Derived.Deep.Draws
import Derived.Deep.AppendLies
import Derived.Maps.AppendAt
import Derived.OwnWalk
import Derived.Laws.BytesArg
import Derived.Laws.MakeOwn
import Derived.Laws.OwnMore
import Derived.Deep.OwnRows
import Derived.Tactics
import Derived.Lib.ConvBytes
import Derived.Laws.Slices
import Derived.WalkKit
import Derived.KernelRfl
import Derived.RowKit3
import Derived.Deep.LoopGhost
import Derived.Deep.QuietTactic
import Derived.BigQuiet
import Derived.WideLaws
import Derived.Deep.DeepCutAuto
import Derived.Deep.CutBlock
import Derived.Deep.RegionHeld3
import Derived.Laws.Rows
import Derived.Lib.AppendStr
import Derived.ArgAppend
import Derived.Laws.IdiomCopy
import Derived.OrdersHeld
import Derived.Laws.BitsLemmas
import Derived.RowKit
import Derived.Test.YtemelfcpmbcnaaaX
import Derived.Test.YtemelfcpmbcnaaaWWords
import Derived.Test.YtemelfcpmbcnaaaWLast
import Derived.Test.YtemelfcpmbcnaaaWTab
import Derived.Test.YtemelfcpmbcnaaaWFour
import Derived.Test.YtemelfcpmbcnaaaWQPut
import Derived.Test.YtemelfcpmbcnaaaWApart
import Derived.Test.YtemelfcpmbcnaaaWArr
import Derived.Test.YtemelfcpmbcnaaaWZeros
import Derived.Test.YtemelfcpmbcnaaaWFoot
import Derived.Test.YtemelfcpmbcnaaaWKept
import Derived.Test.YtemelfcpmbcnaaaWShare
import Derived.Test.YtemelfcpmbcnaaaWN
import Derived.Test.YtemelfcpmbcnaaaWFootNe
import Derived.Test.YtemelfcpmbcnaaaWAt
import Derived.Test.YtemelfcpmbcnaaaWEqStruct
import Derived.Test.YtemelfcpmbcnaaaWRepsOne
import Derived.Test.YtemelfcpmbcnaaaWInv
import Derived.Test.YtemelfcpmbcnaaaWInvWords
import Derived.Test.YtemelfcpmbcnaaaWGuard
import Derived.Test.YtemelfcpmbcnaaaWNEv
import Derived.Test.YtemelfcpmbcnaaaWMore
namespace Go.Proofs.Ytemelfcpmbcnaaa.P
open Go.RowKit Go.Proofs.YtemelfcpmbcnaaaW.PrintWords Go.Proofs.YtemelfcpmbcnaaaW.PrintLast Go.Proofs.YtemelfcpmbcnaaaW.PrintMore
attribute [local go_sem] max2_int min2_int max_two min_two max_three min_three max_four min_four   -- for this text's walks alone
set_option linter.unusedVariables false
set_option linter.unusedSimpArgs false



def errW : Option Int → Value
  | none => .nilIface
  | some c => .iface 0 (.int .i64 c)
theorem errW_none : errW none = .nilIface := rfl
theorem errW_some (c : Int) : errW (some c) = .iface 0 (.int .i64 c) := rfl

theorem info5 : (Try.prog.info? 5).map (fun i => (i.zero, i.size, i.bytes)) = some (some (.int .u8 0), 1, 1) := by kernel_rfl
-- the values' own types

end Go.Proofs.Ytemelfcpmbcnaaa.P
