-- The print's shared lemmas, cut down by the session (wip/slim.py) to those that this claim uses.
import Derived.Test.YtcieonfpmchdkaaGreatDoorWInv
import Derived.Test.YtcieonfpmchdkaaGreatDoorWFootNe
namespace Go.Proofs.YtcieonfpmchdkaaGreatDoorW.PrintWords
open Go.RowKit
end Go.Proofs.YtcieonfpmchdkaaGreatDoorW.PrintWords
namespace Go.Proofs.YtcieonfpmchdkaaGreatDoorW.PrintLast
section
variable {ops : Array Oper} {a : Act} {o og : Oper} {g : Nat} {t : Tmp} {u : Bool}
end
end Go.Proofs.YtcieonfpmchdkaaGreatDoorW.PrintLast
