-- PRINTED (bridge.py)
import Derived.Test.YtkkfclpodgagdaaCore1
import Derived.Test.YtkkfclpodgagdaaPx
namespace Go.Proofs.Ytkkfclpodgagdaa
open Go.Proofs.Ytkkfclpodgagdaa.P Go.Proofs.Ytkkfclpodgagdaa.Ab Go.RowKit Go.Proofs.YtkkfclpodgagdaaW.PrintWords Go.Proofs.YtkkfclpodgagdaaW.PrintLast
set_option linter.all false
set_option maxRecDepth 20000
theorem c_value_Upper (a0 : ByteArray) (r : ByteArray) (h : value_Upper.f a0 = some r) (o0 : r.size ≤ 9223372036854775807) : Ret Try.prog 30 [.str a0] (.str r) := by
 exact Ret.calls (vs := [.string a0]) Try.call30 ⟨same_str _, True.intro⟩ (fits_str o0) (fun w => (value_Upper.calls a0 r w h).mono fun e w' q => ⟨q.1, q.2⟩)
end Go.Proofs.Ytkkfclpodgagdaa
