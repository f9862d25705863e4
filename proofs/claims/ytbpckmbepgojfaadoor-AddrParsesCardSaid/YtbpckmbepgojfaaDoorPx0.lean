-- Written by a program of this session (wip/tools/xprint.py), out of the seat's translation. Not trusted: Lean checks it.
import Derived.Test.YtbpckmbepgojfaaDoorProg
import Derived.Below
import Derived.Deep.Draws
import Derived.Deep.AppendLies
import Derived.Maps.AppendAt
import Derived.OwnWalk
import Derived.Laws.BytesArg
import Derived.Laws.MakeOwn
import Derived.Laws.OwnMore
import Derived.Deep.OwnRows
import Derived.Tactics
import Derived.Lib.ConvBytes
import Derived.Laws.Slices
import Derived.WalkKit
import Derived.KernelRfl
import Derived.RowKit3
import Derived.Deep.LoopGhost
import Derived.Deep.QuietTactic
import Derived.BigQuiet
import Derived.WideLaws
import Derived.Deep.DeepCutAuto
import Derived.Deep.CutBlock
import Derived.Deep.RegionHeld3
import Derived.Laws.Rows
import Derived.Lib.AppendStr
import Derived.ArgAppend
import Derived.Laws.IdiomCopy
import Derived.OrdersHeld
import Derived.Laws.BitsLemmas
import Derived.RowKit
import Derived.Test.YtbpckmbepgojfaaDoorX
import Derived.Test.YtbpckmbepgojfaaDoorY
import Derived.Test.YtbpckmbepgojfaaDoorZ
import Derived.Test.YtbpckmbepgojfaaDoorU
import Derived.Test.YtbpckmbepgojfaaDoorWWords
import Derived.Test.YtbpckmbepgojfaaDoorWLast
import Derived.Test.YtbpckmbepgojfaaDoorWTab
import Derived.Test.YtbpckmbepgojfaaDoorWFour
import Derived.Test.YtbpckmbepgojfaaDoorWQPut
import Derived.Test.YtbpckmbepgojfaaDoorWApart
import Derived.Test.YtbpckmbepgojfaaDoorWArr
import Derived.Test.YtbpckmbepgojfaaDoorWZeros
import Derived.Test.YtbpckmbepgojfaaDoorWFoot
import Derived.Test.YtbpckmbepgojfaaDoorWKept
import Derived.Test.YtbpckmbepgojfaaDoorWShare
import Derived.Test.YtbpckmbepgojfaaDoorWN
import Derived.Test.YtbpckmbepgojfaaDoorWFootNe
import Derived.Test.YtbpckmbepgojfaaDoorWAt
import Derived.Test.YtbpckmbepgojfaaDoorWEqStruct
import Derived.Test.YtbpckmbepgojfaaDoorWRepsOne
import Derived.Test.YtbpckmbepgojfaaDoorWInv
import Derived.Test.YtbpckmbepgojfaaDoorWInvWords
import Derived.Test.YtbpckmbepgojfaaDoorWGuard
import Derived.Test.YtbpckmbepgojfaaDoorWNEv
import Derived.Test.YtbpckmbepgojfaaDoorWMore
namespace Go.Proofs.YtbpckmbepgojfaaDoor.P
open Go.RowKit Go.Proofs.YtbpckmbepgojfaaDoorW.PrintWords Go.Proofs.YtbpckmbepgojfaaDoorW.PrintLast Go.Proofs.YtbpckmbepgojfaaDoorW.PrintMore
attribute [local go_sem] max2_int min2_int max_two min_two max_three min_three max_four min_four X.binOp_str_gtr X.binOp_str_leq   -- for this text's walks alone
set_option linter.unusedVariables false
set_option linter.unusedSimpArgs false



def errW : Option Int → Value
  | none => .nilIface
  | some c => .iface 0 (.int .i64 c)
theorem errW_none : errW none = .nilIface := rfl
theorem errW_some (c : Int) : errW (some c) = .iface 0 (.int .i64 c) := rfl

-- the values' own types

end Go.Proofs.YtbpckmbepgojfaaDoor.P
