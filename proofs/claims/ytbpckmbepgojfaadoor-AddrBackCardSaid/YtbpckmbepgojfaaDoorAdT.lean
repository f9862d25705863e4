/- All cells, told and read: tables. -/
import Derived.Test.YtbpckmbepgojfaaDoorAdC
import Derived.Test.YtbpckmbepgojfaaDoorAdE
import Derived.Test.YtbpckmbepgojfaaDoorPx0
namespace Go.Proofs.YtbpckmbepgojfaaDoor.Ad
open Go.RowKit Go.Proofs.YtbpckmbepgojfaaDoor.P Go.Proofs.YtbpckmbepgojfaaDoor.Nm Go.Proofs.YtbpckmbepgojfaaDoorW.PrintWords Go.Proofs.YtbpckmbepgojfaaDoorW.PrintLast
set_option linter.unusedVariables false
set_option linter.unusedSimpArgs false

def okq (r c : Int) (x y : Bool) : Bool := decide (pc (clt r c x y) = (e0, e0, r, c, x, y, true)) && decide (at_ (clt r c x y) 33 = -1) && !(pre (clt r c x y) 91)
def okq4 (r c : Int) : Bool := okq r c false false && okq r c false true && okq r c true false && okq r c true true
theorem clt_b0 : ∀ r : Fin 8, ∀ c : Fin 26, okq4 (0 + (r.val : Int) + 1) ((c.val : Int) + 1) = true := by decide +kernel
theorem clt_b1 : ∀ r : Fin 8, ∀ c : Fin 26, okq4 (8 + (r.val : Int) + 1) ((c.val : Int) + 1) = true := by decide +kernel
theorem clt_b2 : ∀ r : Fin 8, ∀ c : Fin 26, okq4 (16 + (r.val : Int) + 1) ((c.val : Int) + 1) = true := by decide +kernel
theorem clt_b3 : ∀ r : Fin 8, ∀ c : Fin 26, okq4 (24 + (r.val : Int) + 1) ((c.val : Int) + 1) = true := by decide +kernel
theorem clt_b4 : ∀ r : Fin 8, ∀ c : Fin 26, okq4 (32 + (r.val : Int) + 1) ((c.val : Int) + 1) = true := by decide +kernel
theorem clt_b5 : ∀ r : Fin 8, ∀ c : Fin 26, okq4 (40 + (r.val : Int) + 1) ((c.val : Int) + 1) = true := by decide +kernel
theorem clt_b6 : ∀ r : Fin 8, ∀ c : Fin 26, okq4 (48 + (r.val : Int) + 1) ((c.val : Int) + 1) = true := by decide +kernel
theorem clt_b7 : ∀ r : Fin 8, ∀ c : Fin 26, okq4 (56 + (r.val : Int) + 1) ((c.val : Int) + 1) = true := by decide +kernel
end Go.Proofs.YtbpckmbepgojfaaDoor.Ad
