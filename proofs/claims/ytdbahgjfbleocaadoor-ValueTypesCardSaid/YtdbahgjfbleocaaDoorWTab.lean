-- Cut by a program of this session (wip/tools/prunew.py) out of a text that the kit's print lays: not as printed, what is not used here is left out.
import Derived.Test.YtdbahgjfbleocaaDoorWLast
import Derived.Test.YtdbahgjfbleocaaDoorWWords
/-! ### 50. A region's order in a table, made once a region: each step asks the table (numbers alone), not the operations -/
namespace Go.Proofs.YtdbahgjfbleocaaDoorW.PrintLast
open Go.Proofs.YtdbahgjfbleocaaDoorW.PrintWords (Aside0)
section
variable {md : Region.Mode} {ops : Array Oper} {T : Bool × List (List Nat × List Nat)} {l l' li lj lk : Array Bool} {ds : List Nat} {i j k : Nat}
end
end Go.Proofs.YtdbahgjfbleocaaDoorW.PrintLast
