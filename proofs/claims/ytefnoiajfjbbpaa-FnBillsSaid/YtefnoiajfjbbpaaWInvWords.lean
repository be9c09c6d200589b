-- The print's shared lemmas, cut down by the session (wip/slim.py) to those that this claim uses.
import Derived.Test.YtefnoiajfjbbpaaWInv
import Derived.Test.YtefnoiajfjbbpaaWFootNe
namespace Go.Proofs.YtefnoiajfjbbpaaW.PrintWords
open Go.RowKit
end Go.Proofs.YtefnoiajfjbbpaaW.PrintWords
namespace Go.Proofs.YtefnoiajfjbbpaaW.PrintLast
section
variable {ops : Array Oper} {a : Act} {o og : Oper} {g : Nat} {t : Tmp} {u : Bool}
end
end Go.Proofs.YtefnoiajfjbbpaaW.PrintLast
