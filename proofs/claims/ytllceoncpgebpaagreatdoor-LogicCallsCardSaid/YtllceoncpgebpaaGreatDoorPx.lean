-- Written by a program of this session (wip/tools/xprint.py), out of the seat's translation. Not trusted: Lean checks it.
import Derived.Test.YtllceoncpgebpaaGreatDoorPx0
import Derived.Test.YtllceoncpgebpaaGreatDoorPx1
import Derived.Test.YtllceoncpgebpaaGreatDoorPx2
import Derived.Test.YtllceoncpgebpaaGreatDoorPx3
import Derived.Test.YtllceoncpgebpaaGreatDoorPx4
import Derived.Test.YtllceoncpgebpaaGreatDoorPx5
import Derived.Test.YtllceoncpgebpaaGreatDoorPx6
import Derived.Test.YtllceoncpgebpaaGreatDoorPx7
import Derived.Test.YtllceoncpgebpaaGreatDoorPx8
import Derived.Test.YtllceoncpgebpaaGreatDoorPx9
import Derived.Test.YtllceoncpgebpaaGreatDoorPx10
namespace Go.Proofs.YtllceoncpgebpaaGreatDoor.P
open Go.RowKit Go.Proofs.YtllceoncpgebpaaGreatDoorW.PrintWords Go.Proofs.YtllceoncpgebpaaGreatDoorW.PrintLast Go.Proofs.YtllceoncpgebpaaGreatDoorW.PrintMore
attribute [local go_sem] max2_int min2_int max_two min_two max_three min_three max_four min_four X.binOp_str_gtr X.binOp_str_leq
set_option linter.unusedVariables false
set_option linter.unusedSimpArgs false
end Go.Proofs.YtllceoncpgebpaaGreatDoor.P
