-- The print's shared lemmas, cut down by the session (wip/slim.py) to those that this claim uses.
import Derived.Test.YtcieonfpmchdkaaWWords
import Derived.Laws.StructEq
/-! ### 53. '==' of structs as_ one Bool -/
namespace Go.Proofs.YtcieonfpmchdkaaW.PrintWords
open Go.RowKit
section
variable {P : Program} {d : Nat} {xs ys : Array Value} {f : Field} {fs : List Field} {a b : Value} {r s : Bool} {w : World}
end
end Go.Proofs.YtcieonfpmchdkaaW.PrintWords
