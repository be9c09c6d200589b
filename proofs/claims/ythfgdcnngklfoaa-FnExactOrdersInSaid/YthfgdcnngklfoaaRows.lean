/-
  No cell of these rows narrows 'for every input' (looked for: loops, veiled, ifaces, maps, wideKeys, modest, calm, conditions, laid).
  DERIVED. THE GIVEN ROWS OF THIS SEAT. 12 by the template 'for every input the law returns true; each argument reads behind the call as it read before'; 0 by the template 'total and deterministic' (their statements: YthfgdcnngklfoaaTotals.lean).
  GIVEN WITH THE SEED: the statements are not yours to turn. If you find one false, say at which input.
  Laid BY PROGRAM, IN A SANDBOX (cutbox-rows.mjs): the forced cells as the released guide's own fill.sh prints them over the translation adaf6fc724cb961f… (all of the seat's roots in one cut). By AI agents, Wed Nov 11 2026. No macro, syntax, notation, axiom, sorry.
-/
import Derived.Test.YthfgdcnngklfoaaChecked
import GoSem.Claim
import GoSem.ClaimJoined
import GoSem.ClaimMapViews
import Derived.JoinedTies
import Derived.KernelRfl
namespace Go.Proofs.Ythfgdcnngklfoaa
/- THE CELL 'sum', in the pinned program and in every row, IS THE sha256 OF THE DUMP (.gsa) THAT YthfgdcnngklfoaaProg.lean LOADS. Nothing in Lean hashes anything: it is a label: what it is worth is what the hold of that sum in a sandbox is worth. -/
noncomputable def Try.pinned : Pinned := { name := "ythfgdcnngklfoaa", sum := "adaf6fc724cb961fb2bcac6f5f86a18c67b8b5b81f36470a051db9cde2751a44", checked := Try.checked }
namespace Rows
def none {H : Type} : Left H := { results := [], args := [] }

/-- 'laws.FnExactVarianceOf': WHATEVER THE INPUT: true; the input reads as it did. -/
def fnExactVarianceOfSpec : ChangeSpec := { name := "fnExactVarianceOf", fn := fun _ => fun
  | [d1, d2] => { results := [.lit (.bool true)], args := [d1, d2] }
  | _ => none }
def fnExactVarianceOfRow : OpenClaim := { program := "ythfgdcnngklfoaa", sum := "adaf6fc724cb961fb2bcac6f5f86a18c67b8b5b81f36470a051db9cde2751a44", func := "loop.example/g00944/laws.FnExactVarianceOf", spec := "fnExactVarianceOf", unfollowed := true, recurses := true, apart := false }
def FnExactVarianceOfSaid : Prop := fnExactVarianceOfRow.holds Try.pinned (OpenSpec.ofChange fnExactVarianceOfSpec)

/-- ITS FALSE NEIGHBOUR: 'it returns false'. Refute it at one input. -/
def fnExactVarianceOfWrong : ChangeSpec := { name := "fnExactVarianceOf", fn := fun _ => fun
  | [d1, d2] => { results := [.lit (.bool false)], args := [d1, d2] }
  | _ => none }
def FnExactVarianceOfWrongFalsely : Prop := fnExactVarianceOfRow.holds Try.pinned (OpenSpec.ofChange fnExactVarianceOfWrong)

/-- 'laws.FnExactOutputOf': WHATEVER THE INPUT: true; the input reads as it did. -/
def fnExactOutputOfSpec : ChangeSpec := { name := "fnExactOutputOf", fn := fun _ => fun
  | [d1, d2] => { results := [.lit (.bool true)], args := [d1, d2] }
  | _ => none }
def fnExactOutputOfRow : OpenClaim := { program := "ythfgdcnngklfoaa", sum := "adaf6fc724cb961fb2bcac6f5f86a18c67b8b5b81f36470a051db9cde2751a44", func := "loop.example/g00944/laws.FnExactOutputOf", spec := "fnExactOutputOf", unfollowed := true, recurses := true, apart := false }
def FnExactOutputOfSaid : Prop := fnExactOutputOfRow.holds Try.pinned (OpenSpec.ofChange fnExactOutputOfSpec)

/-- ITS FALSE NEIGHBOUR: 'it returns false'. Refute it at one input. -/
def fnExactOutputOfWrong : ChangeSpec := { name := "fnExactOutputOf", fn := fun _ => fun
  | [d1, d2] => { results := [.lit (.bool false)], args := [d1, d2] }
  | _ => none }
def FnExactOutputOfWrongFalsely : Prop := fnExactOutputOfRow.holds Try.pinned (OpenSpec.ofChange fnExactOutputOfWrong)

/-- 'laws.FnExactYieldOf': WHATEVER THE INPUT: true; the input reads as it did. -/
def fnExactYieldOfSpec : ChangeSpec := { name := "fnExactYieldOf", fn := fun _ => fun
  | [d1, d2] => { results := [.lit (.bool true)], args := [d1, d2] }
  | _ => none }
def fnExactYieldOfRow : OpenClaim := { program := "ythfgdcnngklfoaa", sum := "adaf6fc724cb961fb2bcac6f5f86a18c67b8b5b81f36470a051db9cde2751a44", func := "loop.example/g00944/laws.FnExactYieldOf", spec := "fnExactYieldOf", unfollowed := true, recurses := true, apart := false }
def FnExactYieldOfSaid : Prop := fnExactYieldOfRow.holds Try.pinned (OpenSpec.ofChange fnExactYieldOfSpec)

/-- ITS FALSE NEIGHBOUR: 'it returns false'. Refute it at one input. -/
def fnExactYieldOfWrong : ChangeSpec := { name := "fnExactYieldOf", fn := fun _ => fun
  | [d1, d2] => { results := [.lit (.bool false)], args := [d1, d2] }
  | _ => none }
def FnExactYieldOfWrongFalsely : Prop := fnExactYieldOfRow.holds Try.pinned (OpenSpec.ofChange fnExactYieldOfWrong)

/-- 'laws.FnBreakEven': WHATEVER THE INPUT: true; the input reads as it did. -/
def fnBreakEvenSpec : ChangeSpec := { name := "fnBreakEven", fn := fun _ => fun
  | [d] => { results := [.lit (.bool true)], args := [d] }
  | _ => none }
def fnBreakEvenRow : OpenClaim := { program := "ythfgdcnngklfoaa", sum := "adaf6fc724cb961fb2bcac6f5f86a18c67b8b5b81f36470a051db9cde2751a44", func := "loop.example/g00944/laws.FnBreakEven", spec := "fnBreakEven", apart := false }
def FnBreakEvenSaid : Prop := fnBreakEvenRow.holds Try.pinned (OpenSpec.ofChange fnBreakEvenSpec)

/-- ITS FALSE NEIGHBOUR: 'it returns false'. Refute it at one input. -/
def fnBreakEvenWrong : ChangeSpec := { name := "fnBreakEven", fn := fun _ => fun
  | [d] => { results := [.lit (.bool false)], args := [d] }
  | _ => none }
def FnBreakEvenWrongFalsely : Prop := fnBreakEvenRow.holds Try.pinned (OpenSpec.ofChange fnBreakEvenWrong)

/-- 'laws.FnExactTimeWithWaste': WHATEVER THE INPUT: true; the input reads as it did. -/
def fnExactTimeWithWasteSpec : ChangeSpec := { name := "fnExactTimeWithWaste", fn := fun _ => fun
  | [d1, d2] => { results := [.lit (.bool true)], args := [d1, d2] }
  | _ => none }
def fnExactTimeWithWasteRow : OpenClaim := { program := "ythfgdcnngklfoaa", sum := "adaf6fc724cb961fb2bcac6f5f86a18c67b8b5b81f36470a051db9cde2751a44", func := "loop.example/g00944/laws.FnExactTimeWithWaste", spec := "fnExactTimeWithWaste", unfollowed := true, recurses := true, apart := false }
def FnExactTimeWithWasteSaid : Prop := fnExactTimeWithWasteRow.holds Try.pinned (OpenSpec.ofChange fnExactTimeWithWasteSpec)

/-- ITS FALSE NEIGHBOUR: 'it returns false'. Refute it at one input. -/
def fnExactTimeWithWasteWrong : ChangeSpec := { name := "fnExactTimeWithWaste", fn := fun _ => fun
  | [d1, d2] => { results := [.lit (.bool false)], args := [d1, d2] }
  | _ => none }
def FnExactTimeWithWasteWrongFalsely : Prop := fnExactTimeWithWasteRow.holds Try.pinned (OpenSpec.ofChange fnExactTimeWithWasteWrong)

/-- 'laws.FnExactOrdersIn': WHATEVER THE INPUT: true; the input reads as it did. -/
def fnExactOrdersInSpec : ChangeSpec := { name := "fnExactOrdersIn", fn := fun _ => fun
  | [d1, d2] => { results := [.lit (.bool true)], args := [d1, d2] }
  | _ => none }
def fnExactOrdersInRow : OpenClaim := { program := "ythfgdcnngklfoaa", sum := "adaf6fc724cb961fb2bcac6f5f86a18c67b8b5b81f36470a051db9cde2751a44", func := "loop.example/g00944/laws.FnExactOrdersIn", spec := "fnExactOrdersIn", unfollowed := true, recurses := true, apart := false }
def FnExactOrdersInSaid : Prop := fnExactOrdersInRow.holds Try.pinned (OpenSpec.ofChange fnExactOrdersInSpec)

/-- ITS FALSE NEIGHBOUR: 'it returns false'. Refute it at one input. -/
def fnExactOrdersInWrong : ChangeSpec := { name := "fnExactOrdersIn", fn := fun _ => fun
  | [d1, d2] => { results := [.lit (.bool false)], args := [d1, d2] }
  | _ => none }
def FnExactOrdersInWrongFalsely : Prop := fnExactOrdersInRow.holds Try.pinned (OpenSpec.ofChange fnExactOrdersInWrong)

/-- 'laws.FnExactOfferOrder': WHATEVER THE INPUT: true; the input reads as it did. -/
def fnExactOfferOrderSpec : ChangeSpec := { name := "fnExactOfferOrder", fn := fun _ => fun
  | [d1, d2, d3] => { results := [.lit (.bool true)], args := [d1, d2, d3] }
  | _ => none }
def fnExactOfferOrderRow : OpenClaim := { program := "ythfgdcnngklfoaa", sum := "adaf6fc724cb961fb2bcac6f5f86a18c67b8b5b81f36470a051db9cde2751a44", func := "loop.example/g00944/laws.FnExactOfferOrder", spec := "fnExactOfferOrder", apart := false }
def FnExactOfferOrderSaid : Prop := fnExactOfferOrderRow.holds Try.pinned (OpenSpec.ofChange fnExactOfferOrderSpec)

/-- ITS FALSE NEIGHBOUR: 'it returns false'. Refute it at one input. -/
def fnExactOfferOrderWrong : ChangeSpec := { name := "fnExactOfferOrder", fn := fun _ => fun
  | [d1, d2, d3] => { results := [.lit (.bool false)], args := [d1, d2, d3] }
  | _ => none }
def FnExactOfferOrderWrongFalsely : Prop := fnExactOfferOrderRow.holds Try.pinned (OpenSpec.ofChange fnExactOfferOrderWrong)

/-- 'laws.FnExactMergeBills': WHATEVER THE INPUT: true; the input reads as it did. -/
def fnExactMergeBillsSpec : ChangeSpec := { name := "fnExactMergeBills", fn := fun _ => fun
  | [d1, d2] => { results := [.lit (.bool true)], args := [d1, d2] }
  | _ => none }
def fnExactMergeBillsRow : OpenClaim := { program := "ythfgdcnngklfoaa", sum := "adaf6fc724cb961fb2bcac6f5f86a18c67b8b5b81f36470a051db9cde2751a44", func := "loop.example/g00944/laws.FnExactMergeBills", spec := "fnExactMergeBills", unfollowed := true, recurses := true, apart := false }
def FnExactMergeBillsSaid : Prop := fnExactMergeBillsRow.holds Try.pinned (OpenSpec.ofChange fnExactMergeBillsSpec)

/-- ITS FALSE NEIGHBOUR: 'it returns false'. Refute it at one input. -/
def fnExactMergeBillsWrong : ChangeSpec := { name := "fnExactMergeBills", fn := fun _ => fun
  | [d1, d2] => { results := [.lit (.bool false)], args := [d1, d2] }
  | _ => none }
def FnExactMergeBillsWrongFalsely : Prop := fnExactMergeBillsRow.holds Try.pinned (OpenSpec.ofChange fnExactMergeBillsWrong)

/-- 'laws.FnExactInputFor': WHATEVER THE INPUT: true; the input reads as it did. -/
def fnExactInputForSpec : ChangeSpec := { name := "fnExactInputFor", fn := fun _ => fun
  | [d1, d2] => { results := [.lit (.bool true)], args := [d1, d2] }
  | _ => none }
def fnExactInputForRow : OpenClaim := { program := "ythfgdcnngklfoaa", sum := "adaf6fc724cb961fb2bcac6f5f86a18c67b8b5b81f36470a051db9cde2751a44", func := "loop.example/g00944/laws.FnExactInputFor", spec := "fnExactInputFor", unfollowed := true, recurses := true, apart := false }
def FnExactInputForSaid : Prop := fnExactInputForRow.holds Try.pinned (OpenSpec.ofChange fnExactInputForSpec)

/-- ITS FALSE NEIGHBOUR: 'it returns false'. Refute it at one input. -/
def fnExactInputForWrong : ChangeSpec := { name := "fnExactInputFor", fn := fun _ => fun
  | [d1, d2] => { results := [.lit (.bool false)], args := [d1, d2] }
  | _ => none }
def FnExactInputForWrongFalsely : Prop := fnExactInputForRow.holds Try.pinned (OpenSpec.ofChange fnExactInputForWrong)

/-- 'laws.FnTimes': WHATEVER THE INPUT: true; the input reads as it did. -/
def fnTimesSpec : ChangeSpec := { name := "fnTimes", fn := fun _ => fun
  | [d] => { results := [.lit (.bool true)], args := [d] }
  | _ => none }
def fnTimesRow : OpenClaim := { program := "ythfgdcnngklfoaa", sum := "adaf6fc724cb961fb2bcac6f5f86a18c67b8b5b81f36470a051db9cde2751a44", func := "loop.example/g00944/laws.FnTimes", spec := "fnTimes", apart := false }
def FnTimesSaid : Prop := fnTimesRow.holds Try.pinned (OpenSpec.ofChange fnTimesSpec)

/-- ITS FALSE NEIGHBOUR: 'it returns false'. Refute it at one input. -/
def fnTimesWrong : ChangeSpec := { name := "fnTimes", fn := fun _ => fun
  | [d] => { results := [.lit (.bool false)], args := [d] }
  | _ => none }
def FnTimesWrongFalsely : Prop := fnTimesRow.holds Try.pinned (OpenSpec.ofChange fnTimesWrong)

/-- 'laws.FnExactWorstStep': WHATEVER THE INPUT: true; the input reads as it did. -/
def fnExactWorstStepSpec : ChangeSpec := { name := "fnExactWorstStep", fn := fun _ => fun
  | [d1, d2] => { results := [.lit (.bool true)], args := [d1, d2] }
  | _ => none }
def fnExactWorstStepRow : OpenClaim := { program := "ythfgdcnngklfoaa", sum := "adaf6fc724cb961fb2bcac6f5f86a18c67b8b5b81f36470a051db9cde2751a44", func := "loop.example/g00944/laws.FnExactWorstStep", spec := "fnExactWorstStep", unfollowed := true, recurses := true, apart := false }
def FnExactWorstStepSaid : Prop := fnExactWorstStepRow.holds Try.pinned (OpenSpec.ofChange fnExactWorstStepSpec)

/-- ITS FALSE NEIGHBOUR: 'it returns false'. Refute it at one input. -/
def fnExactWorstStepWrong : ChangeSpec := { name := "fnExactWorstStep", fn := fun _ => fun
  | [d1, d2] => { results := [.lit (.bool false)], args := [d1, d2] }
  | _ => none }
def FnExactWorstStepWrongFalsely : Prop := fnExactWorstStepRow.holds Try.pinned (OpenSpec.ofChange fnExactWorstStepWrong)

/-- 'laws.FnExactPassedOn': WHATEVER THE INPUT: true; the input reads as it did. -/
def fnExactPassedOnSpec : ChangeSpec := { name := "fnExactPassedOn", fn := fun _ => fun
  | [d1, d2] => { results := [.lit (.bool true)], args := [d1, d2] }
  | _ => none }
def fnExactPassedOnRow : OpenClaim := { program := "ythfgdcnngklfoaa", sum := "adaf6fc724cb961fb2bcac6f5f86a18c67b8b5b81f36470a051db9cde2751a44", func := "loop.example/g00944/laws.FnExactPassedOn", spec := "fnExactPassedOn", unfollowed := true, recurses := true, apart := false }
def FnExactPassedOnSaid : Prop := fnExactPassedOnRow.holds Try.pinned (OpenSpec.ofChange fnExactPassedOnSpec)

/-- ITS FALSE NEIGHBOUR: 'it returns false'. Refute it at one input. -/
def fnExactPassedOnWrong : ChangeSpec := { name := "fnExactPassedOn", fn := fun _ => fun
  | [d1, d2] => { results := [.lit (.bool false)], args := [d1, d2] }
  | _ => none }
def FnExactPassedOnWrongFalsely : Prop := fnExactPassedOnRow.holds Try.pinned (OpenSpec.ofChange fnExactPassedOnWrong)

/- THE SECOND FORM. 'bulk': how many values and letters a reading holds, each counted each time it is reached (what is shared counts as often as it is met; a slice's spare places count too). A statement '..UptoSaid' is the law's where the arguments, and the package variables that the reading takes, are together of bulk at most 1048576: NARROWER than '..Said'. Prove '..Said' where nothing that the law and all that it calls make is longer than what came in: it says more and counts as full. Else prove '..UptoSaid'. A law counts once. -/
mutual
def uptoBulk {H : Type} : DataW H → Nat
  | .lit (.string bytes) => bytes.length + 1
  | .lit _ => 1
  | .nil => 1
  | .ptr d => uptoBulk d + 1
  | .slice elems spare => uptoBulkAll elems + uptoBulkAll spare + 1
  | .agg parts => uptoBulkAll parts + 1
  | .iface _ d => uptoBulk d + 1
  | .map entries => uptoBulkEntries entries + 1
  | .held _ => 1
def uptoBulkAll {H : Type} : List (DataW H) → Nat
  | [] => 0
  | d :: r => uptoBulk d + uptoBulkAll r
def uptoBulkEntries {H : Type} : List (Lit × DataW H) → Nat
  | [] => 0
  | x :: r => uptoBulkEntry x + uptoBulkEntries r
def uptoBulkEntry {H : Type} : Lit × DataW H → Nat
  | (.string bytes, d) => bytes.length + uptoBulk d + 1
  | (_, d) => uptoBulk d + 1
 end
def uptoSmall : (H : Type) → List (DataW H) → Bool := fun _ ds => decide (uptoBulkAll ds ≤ 1048576)
def OpenSpec.upto (s : _root_.Go.ChangeSpec) : _root_.Go.OpenSpec := { _root_.Go.OpenSpec.ofChange s with cond := some uptoSmall }

/-- 'laws.FnExactVarianceOf', WHERE WHAT IT READS IS OF BULK AT MOST 1048576: true; the input reads as it did. -/
def fnExactVarianceOfUptoRow : OpenClaim := { program := "ythfgdcnngklfoaa", sum := "adaf6fc724cb961fb2bcac6f5f86a18c67b8b5b81f36470a051db9cde2751a44", func := "loop.example/g00944/laws.FnExactVarianceOf", spec := "fnExactVarianceOf", unfollowed := true, recurses := true, apart := false, narrowed := true }
def FnExactVarianceOfUptoSaid : Prop := fnExactVarianceOfUptoRow.holds Try.pinned (OpenSpec.upto fnExactVarianceOfSpec)

/-- 'laws.FnExactOutputOf', WHERE WHAT IT READS IS OF BULK AT MOST 1048576: true; the input reads as it did. -/
def fnExactOutputOfUptoRow : OpenClaim := { program := "ythfgdcnngklfoaa", sum := "adaf6fc724cb961fb2bcac6f5f86a18c67b8b5b81f36470a051db9cde2751a44", func := "loop.example/g00944/laws.FnExactOutputOf", spec := "fnExactOutputOf", unfollowed := true, recurses := true, apart := false, narrowed := true }
def FnExactOutputOfUptoSaid : Prop := fnExactOutputOfUptoRow.holds Try.pinned (OpenSpec.upto fnExactOutputOfSpec)

/-- 'laws.FnExactYieldOf', WHERE WHAT IT READS IS OF BULK AT MOST 1048576: true; the input reads as it did. -/
def fnExactYieldOfUptoRow : OpenClaim := { program := "ythfgdcnngklfoaa", sum := "adaf6fc724cb961fb2bcac6f5f86a18c67b8b5b81f36470a051db9cde2751a44", func := "loop.example/g00944/laws.FnExactYieldOf", spec := "fnExactYieldOf", unfollowed := true, recurses := true, apart := false, narrowed := true }
def FnExactYieldOfUptoSaid : Prop := fnExactYieldOfUptoRow.holds Try.pinned (OpenSpec.upto fnExactYieldOfSpec)

/-- 'laws.FnBreakEven', WHERE WHAT IT READS IS OF BULK AT MOST 1048576: true; the input reads as it did. -/
def fnBreakEvenUptoRow : OpenClaim := { program := "ythfgdcnngklfoaa", sum := "adaf6fc724cb961fb2bcac6f5f86a18c67b8b5b81f36470a051db9cde2751a44", func := "loop.example/g00944/laws.FnBreakEven", spec := "fnBreakEven", apart := false, narrowed := true }
def FnBreakEvenUptoSaid : Prop := fnBreakEvenUptoRow.holds Try.pinned (OpenSpec.upto fnBreakEvenSpec)

/-- 'laws.FnExactTimeWithWaste', WHERE WHAT IT READS IS OF BULK AT MOST 1048576: true; the input reads as it did. -/
def fnExactTimeWithWasteUptoRow : OpenClaim := { program := "ythfgdcnngklfoaa", sum := "adaf6fc724cb961fb2bcac6f5f86a18c67b8b5b81f36470a051db9cde2751a44", func := "loop.example/g00944/laws.FnExactTimeWithWaste", spec := "fnExactTimeWithWaste", unfollowed := true, recurses := true, apart := false, narrowed := true }
def FnExactTimeWithWasteUptoSaid : Prop := fnExactTimeWithWasteUptoRow.holds Try.pinned (OpenSpec.upto fnExactTimeWithWasteSpec)

/-- 'laws.FnExactOrdersIn', WHERE WHAT IT READS IS OF BULK AT MOST 1048576: true; the input reads as it did. -/
def fnExactOrdersInUptoRow : OpenClaim := { program := "ythfgdcnngklfoaa", sum := "adaf6fc724cb961fb2bcac6f5f86a18c67b8b5b81f36470a051db9cde2751a44", func := "loop.example/g00944/laws.FnExactOrdersIn", spec := "fnExactOrdersIn", unfollowed := true, recurses := true, apart := false, narrowed := true }
def FnExactOrdersInUptoSaid : Prop := fnExactOrdersInUptoRow.holds Try.pinned (OpenSpec.upto fnExactOrdersInSpec)

/-- 'laws.FnExactOfferOrder', WHERE WHAT IT READS IS OF BULK AT MOST 1048576: true; the input reads as it did. -/
def fnExactOfferOrderUptoRow : OpenClaim := { program := "ythfgdcnngklfoaa", sum := "adaf6fc724cb961fb2bcac6f5f86a18c67b8b5b81f36470a051db9cde2751a44", func := "loop.example/g00944/laws.FnExactOfferOrder", spec := "fnExactOfferOrder", apart := false, narrowed := true }
def FnExactOfferOrderUptoSaid : Prop := fnExactOfferOrderUptoRow.holds Try.pinned (OpenSpec.upto fnExactOfferOrderSpec)

/-- 'laws.FnExactMergeBills', WHERE WHAT IT READS IS OF BULK AT MOST 1048576: true; the input reads as it did. -/
def fnExactMergeBillsUptoRow : OpenClaim := { program := "ythfgdcnngklfoaa", sum := "adaf6fc724cb961fb2bcac6f5f86a18c67b8b5b81f36470a051db9cde2751a44", func := "loop.example/g00944/laws.FnExactMergeBills", spec := "fnExactMergeBills", unfollowed := true, recurses := true, apart := false, narrowed := true }
def FnExactMergeBillsUptoSaid : Prop := fnExactMergeBillsUptoRow.holds Try.pinned (OpenSpec.upto fnExactMergeBillsSpec)

/-- 'laws.FnExactInputFor', WHERE WHAT IT READS IS OF BULK AT MOST 1048576: true; the input reads as it did. -/
def fnExactInputForUptoRow : OpenClaim := { program := "ythfgdcnngklfoaa", sum := "adaf6fc724cb961fb2bcac6f5f86a18c67b8b5b81f36470a051db9cde2751a44", func := "loop.example/g00944/laws.FnExactInputFor", spec := "fnExactInputFor", unfollowed := true, recurses := true, apart := false, narrowed := true }
def FnExactInputForUptoSaid : Prop := fnExactInputForUptoRow.holds Try.pinned (OpenSpec.upto fnExactInputForSpec)

/-- 'laws.FnTimes', WHERE WHAT IT READS IS OF BULK AT MOST 1048576: true; the input reads as it did. -/
def fnTimesUptoRow : OpenClaim := { program := "ythfgdcnngklfoaa", sum := "adaf6fc724cb961fb2bcac6f5f86a18c67b8b5b81f36470a051db9cde2751a44", func := "loop.example/g00944/laws.FnTimes", spec := "fnTimes", apart := false, narrowed := true }
def FnTimesUptoSaid : Prop := fnTimesUptoRow.holds Try.pinned (OpenSpec.upto fnTimesSpec)

/-- 'laws.FnExactWorstStep', WHERE WHAT IT READS IS OF BULK AT MOST 1048576: true; the input reads as it did. -/
def fnExactWorstStepUptoRow : OpenClaim := { program := "ythfgdcnngklfoaa", sum := "adaf6fc724cb961fb2bcac6f5f86a18c67b8b5b81f36470a051db9cde2751a44", func := "loop.example/g00944/laws.FnExactWorstStep", spec := "fnExactWorstStep", unfollowed := true, recurses := true, apart := false, narrowed := true }
def FnExactWorstStepUptoSaid : Prop := fnExactWorstStepUptoRow.holds Try.pinned (OpenSpec.upto fnExactWorstStepSpec)

/-- 'laws.FnExactPassedOn', WHERE WHAT IT READS IS OF BULK AT MOST 1048576: true; the input reads as it did. -/
def fnExactPassedOnUptoRow : OpenClaim := { program := "ythfgdcnngklfoaa", sum := "adaf6fc724cb961fb2bcac6f5f86a18c67b8b5b81f36470a051db9cde2751a44", func := "loop.example/g00944/laws.FnExactPassedOn", spec := "fnExactPassedOn", unfollowed := true, recurses := true, apart := false, narrowed := true }
def FnExactPassedOnUptoSaid : Prop := fnExactPassedOnUptoRow.holds Try.pinned (OpenSpec.upto fnExactPassedOnSpec)

end Rows
end Go.Proofs.Ythfgdcnngklfoaa
