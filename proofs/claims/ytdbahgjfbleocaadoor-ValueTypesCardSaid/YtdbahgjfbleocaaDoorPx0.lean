-- Written by a program of this session (wip/tools/xprint.py), out of the seat's translation. Not trusted: Lean checks it.
import Derived.Test.YtdbahgjfbleocaaDoorProg
import Derived.Below
import Derived.Deep.Draws
import Derived.Deep.AppendLies
import Derived.Maps.AppendAt
import Derived.OwnWalk
import Derived.Laws.BytesArg
import Derived.Laws.MakeOwn
import Derived.Laws.OwnMore
import Derived.Deep.OwnRows
import Derived.Tactics
import Derived.Lib.ConvBytes
import Derived.Laws.Slices
import Derived.WalkKit
import Derived.KernelRfl
import Derived.RowKit3
import Derived.Deep.LoopGhost
import Derived.Deep.QuietTactic
import Derived.BigQuiet
import Derived.WideLaws
import Derived.Deep.DeepCutAuto
import Derived.Deep.CutBlock
import Derived.Deep.RegionHeld3
import Derived.Laws.Rows
import Derived.Lib.AppendStr
import Derived.ArgAppend
import Derived.Laws.IdiomCopy
import Derived.OrdersHeld
import Derived.Laws.BitsLemmas
import Derived.RowKit
import Derived.Test.YtdbahgjfbleocaaDoorX
import Derived.Test.YtdbahgjfbleocaaDoorY
import Derived.Test.YtdbahgjfbleocaaDoorZ
import Derived.Test.YtdbahgjfbleocaaDoorU
import Derived.Test.YtdbahgjfbleocaaDoorWWords
import Derived.Test.YtdbahgjfbleocaaDoorWLast
import Derived.Test.YtdbahgjfbleocaaDoorWTab
import Derived.Test.YtdbahgjfbleocaaDoorWFour
import Derived.Test.YtdbahgjfbleocaaDoorWQPut
import Derived.Test.YtdbahgjfbleocaaDoorWApart
import Derived.Test.YtdbahgjfbleocaaDoorWArr
import Derived.Test.YtdbahgjfbleocaaDoorWZeros
import Derived.Test.YtdbahgjfbleocaaDoorWFoot
import Derived.Test.YtdbahgjfbleocaaDoorWKept
import Derived.Test.YtdbahgjfbleocaaDoorWShare
import Derived.Test.YtdbahgjfbleocaaDoorWN
import Derived.Test.YtdbahgjfbleocaaDoorWFootNe
import Derived.Test.YtdbahgjfbleocaaDoorWAt
import Derived.Test.YtdbahgjfbleocaaDoorWEqStruct
import Derived.Test.YtdbahgjfbleocaaDoorWRepsOne
import Derived.Test.YtdbahgjfbleocaaDoorWInv
import Derived.Test.YtdbahgjfbleocaaDoorWInvWords
import Derived.Test.YtdbahgjfbleocaaDoorWGuard
import Derived.Test.YtdbahgjfbleocaaDoorWNEv
import Derived.Test.YtdbahgjfbleocaaDoorWMore
namespace Go.Proofs.YtdbahgjfbleocaaDoor.P
open Go.RowKit Go.Proofs.YtdbahgjfbleocaaDoorW.PrintWords Go.Proofs.YtdbahgjfbleocaaDoorW.PrintLast Go.Proofs.YtdbahgjfbleocaaDoorW.PrintMore
attribute [local go_sem] max2_int min2_int max_two min_two max_three min_three max_four min_four X.binOp_str_gtr X.binOp_str_leq   -- for this text's walks alone
set_option linter.unusedVariables false
set_option linter.unusedSimpArgs false



def errW : Option Int → Value
  | none => .nilIface
  | some c => .iface 0 (.int .i64 c)
theorem errW_none : errW none = .nilIface := rfl
theorem errW_some (c : Int) : errW (some c) = .iface 0 (.int .i64 c) := rfl

theorem info9 : (Tryd.prog.info? 9).map (fun i => (i.zero, i.size, i.bytes)) = some (some (.string ⟨#[]⟩), 1, 16) := by kernel_rfl
-- the values' own types

end Go.Proofs.YtdbahgjfbleocaaDoor.P
