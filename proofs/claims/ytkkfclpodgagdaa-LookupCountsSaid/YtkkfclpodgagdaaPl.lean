/- What the functions come to, in plain words. -/
import Derived.Test.YtkkfclpodgagdaaPx0
import Derived.Test.YtkkfclpodgagdaaX
import Derived.Test.YtkkfclpodgagdaaPx1
import Derived.Lib.Mul64
import Derived.Laws.Bits64
import Derived.Laws.Strings
import Derived.Test.YtkkfclpodgagdaaY
namespace Go.Proofs.Ytkkfclpodgagdaa.E
open Go.RowKit Go.Proofs.YtkkfclpodgagdaaW.PrintWords
set_option linter.unusedVariables false
set_option linter.unusedSimpArgs false
theorem succ {α : Type} {g : Nat → Option α} {r : α} (k : Ev (fun n => g (n + 1)) r) : Ev g r := Ev.step (fun _ => rfl) k
theorem w64 {x : Int} (h : -9223372036854775808 ≤ x) (k : x ≤ 9223372036854775807) : wrap64 x = x := by
 unfold wrap64
 omega
end Go.Proofs.Ytkkfclpodgagdaa.E
namespace Go.Proofs.Ytkkfclpodgagdaa.Nm
open Go.RowKit Go.Proofs.Ytkkfclpodgagdaa.P Go.Proofs.YtkkfclpodgagdaaW.PrintWords Go.Proofs.YtkkfclpodgagdaaW.PrintLast
set_option linter.unusedVariables false
set_option linter.unusedSimpArgs false
abbrev good (n : Int) : Prop := -100000000000 ≤ n ∧ n ≤ 100000000000
end Go.Proofs.Ytkkfclpodgagdaa.Nm
namespace Go.Proofs.Ytkkfclpodgagdaa.Vl
open Go.RowKit Go.Proofs.Ytkkfclpodgagdaa.P Go.Proofs.Ytkkfclpodgagdaa.Nm Go.Proofs.YtkkfclpodgagdaaW.PrintWords Go.Proofs.YtkkfclpodgagdaaW.PrintLast
set_option linter.unusedVariables false
set_option linter.unusedSimpArgs false
def up (s : ByteArray) : ByteArray := X.mapS X.gUpper s
def lo (s : ByteArray) : ByteArray := X.mapS X.gLower s
theorem Upper_is {s : ByteArray} (h : s.size ≤ 140737488351232) : value_Upper.f s = some (up s) := if_pos (by omega)
def q (s : ByteArray) : Bool := decide (0 < s.size ∧ bt s 0 = 39)
def gdv (a b : Int) (s : ByteArray) : Prop :=
 (a = 0 ∧ b = 0 ∧ s.size = 0) ∨ (a = 1 ∧ good b ∧ s.size = 0) ∨ (a = 2 ∧ b = 0 ∧ s.size ≤ 255) ∨ (a = 3 ∧ (b = 0 ∨ b = 1) ∧ s.size = 0) ∨ (a = 4 ∧ 1 ≤ b ∧ b ≤ 8 ∧ s.size = 0)
instance (a b : Int) (s : ByteArray) : Decidable (gdv a b s) := by unfold gdv good; infer_instance
end Go.Proofs.Ytkkfclpodgagdaa.Vl
namespace Go.Proofs.Ytkkfclpodgagdaa.Vl
open Go.RowKit Go.Proofs.Ytkkfclpodgagdaa.P Go.Proofs.Ytkkfclpodgagdaa.Nm Go.Proofs.YtkkfclpodgagdaaW.PrintWords Go.Proofs.YtkkfclpodgagdaaW.PrintLast
set_option linter.unusedVariables false
set_option linter.unusedSimpArgs false
theorem e0 : (⟨#[]⟩ : ByteArray).size ≤ 140737488351232 := by decide
end Go.Proofs.Ytkkfclpodgagdaa.Vl
