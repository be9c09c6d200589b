/-
  No cell of these rows narrows 'for every input' (looked for: loops, veiled, ifaces, maps, wideKeys, modest, calm, conditions, laid).
  DERIVED. THE GIVEN ROWS OF THIS SEAT. 3 by the template 'for every input the law returns true; each argument reads behind the call as it read before'; 0 by the template 'total and deterministic' (their statements: YtcieonfpmchdkaaTotals.lean).
  GIVEN WITH THE SEED: the statements are not yours to turn. If you find one false, say at which input.
  Laid BY PROGRAM, IN A SANDBOX (cutbox-rows.mjs): the forced cells as the released guide's own fill.sh prints them over the translation aa98c02507504edb… (all of the seat's roots in one cut). By AI agents, Wed Nov 11 2026. No macro, syntax, notation, axiom, sorry.
-/
import Derived.Test.YtcieonfpmchdkaaChecked
import GoSem.Claim
import GoSem.ClaimJoined
import GoSem.ClaimMapViews
import Derived.JoinedTies
import Derived.KernelRfl
namespace Go.Proofs.Ytcieonfpmchdkaa
/- THE CELL 'sum', in the pinned program and in every row, IS THE sha256 OF THE DUMP (.gsa) THAT YtcieonfpmchdkaaProg.lean LOADS. Nothing in Lean hashes anything: it is a label: what it is worth is what the hold of that sum in a sandbox is worth. -/
noncomputable def Try.pinned : Pinned := { name := "ytcieonfpmchdkaa", sum := "aa98c02507504edbe569bd5c6394652c53b321f1532cccc31b992b61764a385f", checked := Try.checked }
namespace Rows
def none {H : Type} : Left H := { results := [], args := [] }

/-- 'laws.FnExactFlowStarts': WHATEVER THE INPUT: true; the input reads as it did. -/
def fnExactFlowStartsSpec : ChangeSpec := { name := "fnExactFlowStarts", fn := fun _ => fun
  | [d1, d2] => { results := [.lit (.bool true)], args := [d1, d2] }
  | _ => none }
def fnExactFlowStartsRow : OpenClaim := { program := "ytcieonfpmchdkaa", sum := "aa98c02507504edbe569bd5c6394652c53b321f1532cccc31b992b61764a385f", func := "loop.example/g00944/laws.FnExactFlowStarts", spec := "fnExactFlowStarts", unfollowed := true, recurses := true, apart := false }
def FnExactFlowStartsSaid : Prop := fnExactFlowStartsRow.holds Try.pinned (OpenSpec.ofChange fnExactFlowStartsSpec)

/-- ITS FALSE NEIGHBOUR: 'it returns false'. Refute it at one input. -/
def fnExactFlowStartsWrong : ChangeSpec := { name := "fnExactFlowStarts", fn := fun _ => fun
  | [d1, d2] => { results := [.lit (.bool false)], args := [d1, d2] }
  | _ => none }
def FnExactFlowStartsWrongFalsely : Prop := fnExactFlowStartsRow.holds Try.pinned (OpenSpec.ofChange fnExactFlowStartsWrong)

/-- 'laws.FnExactFamilyOrder': WHATEVER THE INPUT: true; the input reads as it did. -/
def fnExactFamilyOrderSpec : ChangeSpec := { name := "fnExactFamilyOrder", fn := fun _ => fun
  | [d1, d2] => { results := [.lit (.bool true)], args := [d1, d2] }
  | _ => none }
def fnExactFamilyOrderRow : OpenClaim := { program := "ytcieonfpmchdkaa", sum := "aa98c02507504edbe569bd5c6394652c53b321f1532cccc31b992b61764a385f", func := "loop.example/g00944/laws.FnExactFamilyOrder", spec := "fnExactFamilyOrder", unfollowed := true, recurses := true, apart := false }
def FnExactFamilyOrderSaid : Prop := fnExactFamilyOrderRow.holds Try.pinned (OpenSpec.ofChange fnExactFamilyOrderSpec)

/-- ITS FALSE NEIGHBOUR: 'it returns false'. Refute it at one input. -/
def fnExactFamilyOrderWrong : ChangeSpec := { name := "fnExactFamilyOrder", fn := fun _ => fun
  | [d1, d2] => { results := [.lit (.bool false)], args := [d1, d2] }
  | _ => none }
def FnExactFamilyOrderWrongFalsely : Prop := fnExactFamilyOrderRow.holds Try.pinned (OpenSpec.ofChange fnExactFamilyOrderWrong)

/-- 'laws.FnBestOrders': WHATEVER THE INPUT: true; the input reads as it did. -/
def fnBestOrdersSpec : ChangeSpec := { name := "fnBestOrders", fn := fun _ => fun
  | [d] => { results := [.lit (.bool true)], args := [d] }
  | _ => none }
def fnBestOrdersRow : OpenClaim := { program := "ytcieonfpmchdkaa", sum := "aa98c02507504edbe569bd5c6394652c53b321f1532cccc31b992b61764a385f", func := "loop.example/g00944/laws.FnBestOrders", spec := "fnBestOrders", unfollowed := true, recurses := true, apart := false }
def FnBestOrdersSaid : Prop := fnBestOrdersRow.holds Try.pinned (OpenSpec.ofChange fnBestOrdersSpec)

/-- ITS FALSE NEIGHBOUR: 'it returns false'. Refute it at one input. -/
def fnBestOrdersWrong : ChangeSpec := { name := "fnBestOrders", fn := fun _ => fun
  | [d] => { results := [.lit (.bool false)], args := [d] }
  | _ => none }
def FnBestOrdersWrongFalsely : Prop := fnBestOrdersRow.holds Try.pinned (OpenSpec.ofChange fnBestOrdersWrong)

/- THE SECOND FORM. 'bulk': how many values and letters a reading holds, each counted each time it is reached (what is shared counts as often as it is met; a slice's spare places count too). A statement '..UptoSaid' is the law's where the arguments, and the package variables that the reading takes, are together of bulk at most 1048576: NARROWER than '..Said'. Prove '..Said' where nothing that the law and all that it calls make is longer than what came in: it says more and counts as full. Else prove '..UptoSaid'. A law counts once. -/
mutual
def uptoBulk {H : Type} : DataW H → Nat
  | .lit (.string bytes) => bytes.length + 1
  | .lit _ => 1
  | .nil => 1
  | .ptr d => uptoBulk d + 1
  | .slice elems spare => uptoBulkAll elems + uptoBulkAll spare + 1
  | .agg parts => uptoBulkAll parts + 1
  | .iface _ d => uptoBulk d + 1
  | .map entries => uptoBulkEntries entries + 1
  | .held _ => 1
def uptoBulkAll {H : Type} : List (DataW H) → Nat
  | [] => 0
  | d :: r => uptoBulk d + uptoBulkAll r
def uptoBulkEntries {H : Type} : List (Lit × DataW H) → Nat
  | [] => 0
  | x :: r => uptoBulkEntry x + uptoBulkEntries r
def uptoBulkEntry {H : Type} : Lit × DataW H → Nat
  | (.string bytes, d) => bytes.length + uptoBulk d + 1
  | (_, d) => uptoBulk d + 1
 end
def uptoSmall : (H : Type) → List (DataW H) → Bool := fun _ ds => decide (uptoBulkAll ds ≤ 1048576)
def OpenSpec.upto (s : _root_.Go.ChangeSpec) : _root_.Go.OpenSpec := { _root_.Go.OpenSpec.ofChange s with cond := some uptoSmall }

/-- 'laws.FnExactFlowStarts', WHERE WHAT IT READS IS OF BULK AT MOST 1048576: true; the input reads as it did. -/
def fnExactFlowStartsUptoRow : OpenClaim := { program := "ytcieonfpmchdkaa", sum := "aa98c02507504edbe569bd5c6394652c53b321f1532cccc31b992b61764a385f", func := "loop.example/g00944/laws.FnExactFlowStarts", spec := "fnExactFlowStarts", unfollowed := true, recurses := true, apart := false, narrowed := true }
def FnExactFlowStartsUptoSaid : Prop := fnExactFlowStartsUptoRow.holds Try.pinned (OpenSpec.upto fnExactFlowStartsSpec)

/-- 'laws.FnExactFamilyOrder', WHERE WHAT IT READS IS OF BULK AT MOST 1048576: true; the input reads as it did. -/
def fnExactFamilyOrderUptoRow : OpenClaim := { program := "ytcieonfpmchdkaa", sum := "aa98c02507504edbe569bd5c6394652c53b321f1532cccc31b992b61764a385f", func := "loop.example/g00944/laws.FnExactFamilyOrder", spec := "fnExactFamilyOrder", unfollowed := true, recurses := true, apart := false, narrowed := true }
def FnExactFamilyOrderUptoSaid : Prop := fnExactFamilyOrderUptoRow.holds Try.pinned (OpenSpec.upto fnExactFamilyOrderSpec)

/-- 'laws.FnBestOrders', WHERE WHAT IT READS IS OF BULK AT MOST 1048576: true; the input reads as it did. -/
def fnBestOrdersUptoRow : OpenClaim := { program := "ytcieonfpmchdkaa", sum := "aa98c02507504edbe569bd5c6394652c53b321f1532cccc31b992b61764a385f", func := "loop.example/g00944/laws.FnBestOrders", spec := "fnBestOrders", unfollowed := true, recurses := true, apart := false, narrowed := true }
def FnBestOrdersUptoSaid : Prop := fnBestOrdersUptoRow.holds Try.pinned (OpenSpec.upto fnBestOrdersSpec)

end Rows
end Go.Proofs.Ytcieonfpmchdkaa
