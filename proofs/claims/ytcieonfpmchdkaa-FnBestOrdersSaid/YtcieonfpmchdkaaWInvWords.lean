-- The print's shared lemmas, cut down by the session (wip/slim.py) to those that this claim uses.
import Derived.Test.YtcieonfpmchdkaaWInv
import Derived.Test.YtcieonfpmchdkaaWFootNe
namespace Go.Proofs.YtcieonfpmchdkaaW.PrintWords
open Go.RowKit
end Go.Proofs.YtcieonfpmchdkaaW.PrintWords
namespace Go.Proofs.YtcieonfpmchdkaaW.PrintLast
section
variable {ops : Array Oper} {a : Act} {o og : Oper} {g : Nat} {t : Tmp} {u : Bool}
end
end Go.Proofs.YtcieonfpmchdkaaW.PrintLast
