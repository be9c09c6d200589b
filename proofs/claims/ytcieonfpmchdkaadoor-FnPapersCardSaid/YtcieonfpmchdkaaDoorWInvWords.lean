-- The print's shared lemmas, cut down by the session (wip/slim.py) to those that this claim uses.
import Derived.Test.YtcieonfpmchdkaaDoorWInv
import Derived.Test.YtcieonfpmchdkaaDoorWFootNe
namespace Go.Proofs.YtcieonfpmchdkaaDoorW.PrintWords
open Go.RowKit
end Go.Proofs.YtcieonfpmchdkaaDoorW.PrintWords
namespace Go.Proofs.YtcieonfpmchdkaaDoorW.PrintLast
section
variable {ops : Array Oper} {a : Act} {o og : Oper} {g : Nat} {t : Tmp} {u : Bool}
end
end Go.Proofs.YtcieonfpmchdkaaDoorW.PrintLast
