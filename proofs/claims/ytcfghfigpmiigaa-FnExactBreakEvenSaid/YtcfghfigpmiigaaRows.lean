/-
  No cell of these rows narrows 'for every input' (looked for: loops, veiled, ifaces, maps, wideKeys, modest, calm, conditions, laid).
  DERIVED. THE GIVEN ROWS OF THIS SEAT. 11 by the template 'for every input the law returns true; each argument reads behind the call as it read before'; 0 by the template 'total and deterministic' (their statements: YtcfghfigpmiigaaTotals.lean).
  GIVEN WITH THE SEED: the statements are not yours to turn. If you find one false, say at which input.
  Laid BY PROGRAM, IN A SANDBOX (cutbox-rows.mjs): the forced cells as the released guide's own fill.sh prints them over the translation 150c43253b9c37b0… (all of the seat's roots in one cut). By AI agents, Wed Nov 11 2026. No macro, syntax, notation, axiom, sorry.
-/
import Derived.Test.YtcfghfigpmiigaaChecked
import GoSem.Claim
import GoSem.ClaimJoined
import GoSem.ClaimMapViews
import Derived.JoinedTies
import Derived.KernelRfl
namespace Go.Proofs.Ytcfghfigpmiigaa
/- THE CELL 'sum', in the pinned program and in every row, IS THE sha256 OF THE DUMP (.gsa) THAT YtcfghfigpmiigaaProg.lean LOADS. Nothing in Lean hashes anything: it is a label: what it is worth is what the hold of that sum in a sandbox is worth. -/
noncomputable def Try.pinned : Pinned := { name := "ytcfghfigpmiigaa", sum := "150c43253b9c37b0afedfff3082f616127d1a77a67d4d77066885ecf080f9dd2", checked := Try.checked }
namespace Rows
def none {H : Type} : Left H := { results := [], args := [] }

/-- 'laws.FnExactIsStep': WHATEVER THE INPUT: true; the input reads as it did. -/
def fnExactIsStepSpec : ChangeSpec := { name := "fnExactIsStep", fn := fun _ => fun
  | [d] => { results := [.lit (.bool true)], args := [d] }
  | _ => none }
def fnExactIsStepRow : OpenClaim := { program := "ytcfghfigpmiigaa", sum := "150c43253b9c37b0afedfff3082f616127d1a77a67d4d77066885ecf080f9dd2", func := "loop.example/g00944/laws.FnExactIsStep", spec := "fnExactIsStep", apart := false }
def FnExactIsStepSaid : Prop := fnExactIsStepRow.holds Try.pinned (OpenSpec.ofChange fnExactIsStepSpec)

/-- ITS FALSE NEIGHBOUR: 'it returns false'. Refute it at one input. -/
def fnExactIsStepWrong : ChangeSpec := { name := "fnExactIsStep", fn := fun _ => fun
  | [d] => { results := [.lit (.bool false)], args := [d] }
  | _ => none }
def FnExactIsStepWrongFalsely : Prop := fnExactIsStepRow.holds Try.pinned (OpenSpec.ofChange fnExactIsStepWrong)

/-- 'laws.FnExactUnitPrice': WHATEVER THE INPUT: true; the input reads as it did. -/
def fnExactUnitPriceSpec : ChangeSpec := { name := "fnExactUnitPrice", fn := fun _ => fun
  | [d1, d2] => { results := [.lit (.bool true)], args := [d1, d2] }
  | _ => none }
def fnExactUnitPriceRow : OpenClaim := { program := "ytcfghfigpmiigaa", sum := "150c43253b9c37b0afedfff3082f616127d1a77a67d4d77066885ecf080f9dd2", func := "loop.example/g00944/laws.FnExactUnitPrice", spec := "fnExactUnitPrice", apart := false }
def FnExactUnitPriceSaid : Prop := fnExactUnitPriceRow.holds Try.pinned (OpenSpec.ofChange fnExactUnitPriceSpec)

/-- ITS FALSE NEIGHBOUR: 'it returns false'. Refute it at one input. -/
def fnExactUnitPriceWrong : ChangeSpec := { name := "fnExactUnitPrice", fn := fun _ => fun
  | [d1, d2] => { results := [.lit (.bool false)], args := [d1, d2] }
  | _ => none }
def FnExactUnitPriceWrongFalsely : Prop := fnExactUnitPriceRow.holds Try.pinned (OpenSpec.ofChange fnExactUnitPriceWrong)

/-- 'laws.FnExactWithPercent': WHATEVER THE INPUT: true; the input reads as it did. -/
def fnExactWithPercentSpec : ChangeSpec := { name := "fnExactWithPercent", fn := fun _ => fun
  | [d1, d2] => { results := [.lit (.bool true)], args := [d1, d2] }
  | _ => none }
def fnExactWithPercentRow : OpenClaim := { program := "ytcfghfigpmiigaa", sum := "150c43253b9c37b0afedfff3082f616127d1a77a67d4d77066885ecf080f9dd2", func := "loop.example/g00944/laws.FnExactWithPercent", spec := "fnExactWithPercent", apart := false }
def FnExactWithPercentSaid : Prop := fnExactWithPercentRow.holds Try.pinned (OpenSpec.ofChange fnExactWithPercentSpec)

/-- ITS FALSE NEIGHBOUR: 'it returns false'. Refute it at one input. -/
def fnExactWithPercentWrong : ChangeSpec := { name := "fnExactWithPercent", fn := fun _ => fun
  | [d1, d2] => { results := [.lit (.bool false)], args := [d1, d2] }
  | _ => none }
def FnExactWithPercentWrongFalsely : Prop := fnExactWithPercentRow.holds Try.pinned (OpenSpec.ofChange fnExactWithPercentWrong)

/-- 'laws.FnExactItemsIn': WHATEVER THE INPUT: true; the input reads as it did. -/
def fnExactItemsInSpec : ChangeSpec := { name := "fnExactItemsIn", fn := fun _ => fun
  | [d1, d2] => { results := [.lit (.bool true)], args := [d1, d2] }
  | _ => none }
def fnExactItemsInRow : OpenClaim := { program := "ytcfghfigpmiigaa", sum := "150c43253b9c37b0afedfff3082f616127d1a77a67d4d77066885ecf080f9dd2", func := "loop.example/g00944/laws.FnExactItemsIn", spec := "fnExactItemsIn", apart := false }
def FnExactItemsInSaid : Prop := fnExactItemsInRow.holds Try.pinned (OpenSpec.ofChange fnExactItemsInSpec)

/-- ITS FALSE NEIGHBOUR: 'it returns false'. Refute it at one input. -/
def fnExactItemsInWrong : ChangeSpec := { name := "fnExactItemsIn", fn := fun _ => fun
  | [d1, d2] => { results := [.lit (.bool false)], args := [d1, d2] }
  | _ => none }
def FnExactItemsInWrongFalsely : Prop := fnExactItemsInRow.holds Try.pinned (OpenSpec.ofChange fnExactItemsInWrong)

/-- 'laws.FnExactCheaperOf': WHATEVER THE INPUT: true; the input reads as it did. -/
def fnExactCheaperOfSpec : ChangeSpec := { name := "fnExactCheaperOf", fn := fun _ => fun
  | [d1, d2, d3, d4] => { results := [.lit (.bool true)], args := [d1, d2, d3, d4] }
  | _ => none }
def fnExactCheaperOfRow : OpenClaim := { program := "ytcfghfigpmiigaa", sum := "150c43253b9c37b0afedfff3082f616127d1a77a67d4d77066885ecf080f9dd2", func := "loop.example/g00944/laws.FnExactCheaperOf", spec := "fnExactCheaperOf", apart := false }
def FnExactCheaperOfSaid : Prop := fnExactCheaperOfRow.holds Try.pinned (OpenSpec.ofChange fnExactCheaperOfSpec)

/-- ITS FALSE NEIGHBOUR: 'it returns false'. Refute it at one input. -/
def fnExactCheaperOfWrong : ChangeSpec := { name := "fnExactCheaperOf", fn := fun _ => fun
  | [d1, d2, d3, d4] => { results := [.lit (.bool false)], args := [d1, d2, d3, d4] }
  | _ => none }
def FnExactCheaperOfWrongFalsely : Prop := fnExactCheaperOfRow.holds Try.pinned (OpenSpec.ofChange fnExactCheaperOfWrong)

/-- 'laws.FnExactBreakEven': WHATEVER THE INPUT: true; the input reads as it did. -/
def fnExactBreakEvenSpec : ChangeSpec := { name := "fnExactBreakEven", fn := fun _ => fun
  | [d1, d2, d3] => { results := [.lit (.bool true)], args := [d1, d2, d3] }
  | _ => none }
def fnExactBreakEvenRow : OpenClaim := { program := "ytcfghfigpmiigaa", sum := "150c43253b9c37b0afedfff3082f616127d1a77a67d4d77066885ecf080f9dd2", func := "loop.example/g00944/laws.FnExactBreakEven", spec := "fnExactBreakEven", apart := false }
def FnExactBreakEvenSaid : Prop := fnExactBreakEvenRow.holds Try.pinned (OpenSpec.ofChange fnExactBreakEvenSpec)

/-- ITS FALSE NEIGHBOUR: 'it returns false'. Refute it at one input. -/
def fnExactBreakEvenWrong : ChangeSpec := { name := "fnExactBreakEven", fn := fun _ => fun
  | [d1, d2, d3] => { results := [.lit (.bool false)], args := [d1, d2, d3] }
  | _ => none }
def FnExactBreakEvenWrongFalsely : Prop := fnExactBreakEvenRow.holds Try.pinned (OpenSpec.ofChange fnExactBreakEvenWrong)

/-- 'laws.FnExactStepTime': WHATEVER THE INPUT: true; the input reads as it did. -/
def fnExactStepTimeSpec : ChangeSpec := { name := "fnExactStepTime", fn := fun _ => fun
  | [d1, d2] => { results := [.lit (.bool true)], args := [d1, d2] }
  | _ => none }
def fnExactStepTimeRow : OpenClaim := { program := "ytcfghfigpmiigaa", sum := "150c43253b9c37b0afedfff3082f616127d1a77a67d4d77066885ecf080f9dd2", func := "loop.example/g00944/laws.FnExactStepTime", spec := "fnExactStepTime", apart := false }
def FnExactStepTimeSaid : Prop := fnExactStepTimeRow.holds Try.pinned (OpenSpec.ofChange fnExactStepTimeSpec)

/-- ITS FALSE NEIGHBOUR: 'it returns false'. Refute it at one input. -/
def fnExactStepTimeWrong : ChangeSpec := { name := "fnExactStepTime", fn := fun _ => fun
  | [d1, d2] => { results := [.lit (.bool false)], args := [d1, d2] }
  | _ => none }
def FnExactStepTimeWrongFalsely : Prop := fnExactStepTimeRow.holds Try.pinned (OpenSpec.ofChange fnExactStepTimeWrong)

/-- 'laws.FnExactAreFlowJobs': WHATEVER THE INPUT: true; the input reads as it did. -/
def fnExactAreFlowJobsSpec : ChangeSpec := { name := "fnExactAreFlowJobs", fn := fun _ => fun
  | [d] => { results := [.lit (.bool true)], args := [d] }
  | _ => none }
def fnExactAreFlowJobsRow : OpenClaim := { program := "ytcfghfigpmiigaa", sum := "150c43253b9c37b0afedfff3082f616127d1a77a67d4d77066885ecf080f9dd2", func := "loop.example/g00944/laws.FnExactAreFlowJobs", spec := "fnExactAreFlowJobs", unfollowed := true, recurses := true, apart := false }
def FnExactAreFlowJobsSaid : Prop := fnExactAreFlowJobsRow.holds Try.pinned (OpenSpec.ofChange fnExactAreFlowJobsSpec)

/-- ITS FALSE NEIGHBOUR: 'it returns false'. Refute it at one input. -/
def fnExactAreFlowJobsWrong : ChangeSpec := { name := "fnExactAreFlowJobs", fn := fun _ => fun
  | [d] => { results := [.lit (.bool false)], args := [d] }
  | _ => none }
def FnExactAreFlowJobsWrongFalsely : Prop := fnExactAreFlowJobsRow.holds Try.pinned (OpenSpec.ofChange fnExactAreFlowJobsWrong)

/-- 'laws.FnExactIsBill': WHATEVER THE INPUT: true; the input reads as it did. -/
def fnExactIsBillSpec : ChangeSpec := { name := "fnExactIsBill", fn := fun _ => fun
  | [d] => { results := [.lit (.bool true)], args := [d] }
  | _ => none }
def fnExactIsBillRow : OpenClaim := { program := "ytcfghfigpmiigaa", sum := "150c43253b9c37b0afedfff3082f616127d1a77a67d4d77066885ecf080f9dd2", func := "loop.example/g00944/laws.FnExactIsBill", spec := "fnExactIsBill", unfollowed := true, recurses := true, apart := false }
def FnExactIsBillSaid : Prop := fnExactIsBillRow.holds Try.pinned (OpenSpec.ofChange fnExactIsBillSpec)

/-- ITS FALSE NEIGHBOUR: 'it returns false'. Refute it at one input. -/
def fnExactIsBillWrong : ChangeSpec := { name := "fnExactIsBill", fn := fun _ => fun
  | [d] => { results := [.lit (.bool false)], args := [d] }
  | _ => none }
def FnExactIsBillWrongFalsely : Prop := fnExactIsBillRow.holds Try.pinned (OpenSpec.ofChange fnExactIsBillWrong)

/-- 'laws.FnExactShareTime': WHATEVER THE INPUT: true; the input reads as it did. -/
def fnExactShareTimeSpec : ChangeSpec := { name := "fnExactShareTime", fn := fun _ => fun
  | [d1, d2, d3] => { results := [.lit (.bool true)], args := [d1, d2, d3] }
  | _ => none }
def fnExactShareTimeRow : OpenClaim := { program := "ytcfghfigpmiigaa", sum := "150c43253b9c37b0afedfff3082f616127d1a77a67d4d77066885ecf080f9dd2", func := "loop.example/g00944/laws.FnExactShareTime", spec := "fnExactShareTime", apart := false }
def FnExactShareTimeSaid : Prop := fnExactShareTimeRow.holds Try.pinned (OpenSpec.ofChange fnExactShareTimeSpec)

/-- ITS FALSE NEIGHBOUR: 'it returns false'. Refute it at one input. -/
def fnExactShareTimeWrong : ChangeSpec := { name := "fnExactShareTime", fn := fun _ => fun
  | [d1, d2, d3] => { results := [.lit (.bool false)], args := [d1, d2, d3] }
  | _ => none }
def FnExactShareTimeWrongFalsely : Prop := fnExactShareTimeRow.holds Try.pinned (OpenSpec.ofChange fnExactShareTimeWrong)

/-- 'laws.FnExactIsShop': WHATEVER THE INPUT: true; the input reads as it did. -/
def fnExactIsShopSpec : ChangeSpec := { name := "fnExactIsShop", fn := fun _ => fun
  | [d1, d2] => { results := [.lit (.bool true)], args := [d1, d2] }
  | _ => none }
def fnExactIsShopRow : OpenClaim := { program := "ytcfghfigpmiigaa", sum := "150c43253b9c37b0afedfff3082f616127d1a77a67d4d77066885ecf080f9dd2", func := "loop.example/g00944/laws.FnExactIsShop", spec := "fnExactIsShop", unfollowed := true, recurses := true, apart := false }
def FnExactIsShopSaid : Prop := fnExactIsShopRow.holds Try.pinned (OpenSpec.ofChange fnExactIsShopSpec)

/-- ITS FALSE NEIGHBOUR: 'it returns false'. Refute it at one input. -/
def fnExactIsShopWrong : ChangeSpec := { name := "fnExactIsShop", fn := fun _ => fun
  | [d1, d2] => { results := [.lit (.bool false)], args := [d1, d2] }
  | _ => none }
def FnExactIsShopWrongFalsely : Prop := fnExactIsShopRow.holds Try.pinned (OpenSpec.ofChange fnExactIsShopWrong)

/- THE SECOND FORM. 'bulk': how many values and letters a reading holds, each counted each time it is reached (what is shared counts as often as it is met; a slice's spare places count too). A statement '..UptoSaid' is the law's where the arguments, and the package variables that the reading takes, are together of bulk at most 1048576: NARROWER than '..Said'. Prove '..Said' where nothing that the law and all that it calls make is longer than what came in: it says more and counts as full. Else prove '..UptoSaid'. A law counts once. -/
mutual
def uptoBulk {H : Type} : DataW H → Nat
  | .lit (.string bytes) => bytes.length + 1
  | .lit _ => 1
  | .nil => 1
  | .ptr d => uptoBulk d + 1
  | .slice elems spare => uptoBulkAll elems + uptoBulkAll spare + 1
  | .agg parts => uptoBulkAll parts + 1
  | .iface _ d => uptoBulk d + 1
  | .map entries => uptoBulkEntries entries + 1
  | .held _ => 1
def uptoBulkAll {H : Type} : List (DataW H) → Nat
  | [] => 0
  | d :: r => uptoBulk d + uptoBulkAll r
def uptoBulkEntries {H : Type} : List (Lit × DataW H) → Nat
  | [] => 0
  | x :: r => uptoBulkEntry x + uptoBulkEntries r
def uptoBulkEntry {H : Type} : Lit × DataW H → Nat
  | (.string bytes, d) => bytes.length + uptoBulk d + 1
  | (_, d) => uptoBulk d + 1
 end
def uptoSmall : (H : Type) → List (DataW H) → Bool := fun _ ds => decide (uptoBulkAll ds ≤ 1048576)
def OpenSpec.upto (s : _root_.Go.ChangeSpec) : _root_.Go.OpenSpec := { _root_.Go.OpenSpec.ofChange s with cond := some uptoSmall }

/-- 'laws.FnExactIsStep', WHERE WHAT IT READS IS OF BULK AT MOST 1048576: true; the input reads as it did. -/
def fnExactIsStepUptoRow : OpenClaim := { program := "ytcfghfigpmiigaa", sum := "150c43253b9c37b0afedfff3082f616127d1a77a67d4d77066885ecf080f9dd2", func := "loop.example/g00944/laws.FnExactIsStep", spec := "fnExactIsStep", apart := false, narrowed := true }
def FnExactIsStepUptoSaid : Prop := fnExactIsStepUptoRow.holds Try.pinned (OpenSpec.upto fnExactIsStepSpec)

/-- 'laws.FnExactUnitPrice', WHERE WHAT IT READS IS OF BULK AT MOST 1048576: true; the input reads as it did. -/
def fnExactUnitPriceUptoRow : OpenClaim := { program := "ytcfghfigpmiigaa", sum := "150c43253b9c37b0afedfff3082f616127d1a77a67d4d77066885ecf080f9dd2", func := "loop.example/g00944/laws.FnExactUnitPrice", spec := "fnExactUnitPrice", apart := false, narrowed := true }
def FnExactUnitPriceUptoSaid : Prop := fnExactUnitPriceUptoRow.holds Try.pinned (OpenSpec.upto fnExactUnitPriceSpec)

/-- 'laws.FnExactWithPercent', WHERE WHAT IT READS IS OF BULK AT MOST 1048576: true; the input reads as it did. -/
def fnExactWithPercentUptoRow : OpenClaim := { program := "ytcfghfigpmiigaa", sum := "150c43253b9c37b0afedfff3082f616127d1a77a67d4d77066885ecf080f9dd2", func := "loop.example/g00944/laws.FnExactWithPercent", spec := "fnExactWithPercent", apart := false, narrowed := true }
def FnExactWithPercentUptoSaid : Prop := fnExactWithPercentUptoRow.holds Try.pinned (OpenSpec.upto fnExactWithPercentSpec)

/-- 'laws.FnExactItemsIn', WHERE WHAT IT READS IS OF BULK AT MOST 1048576: true; the input reads as it did. -/
def fnExactItemsInUptoRow : OpenClaim := { program := "ytcfghfigpmiigaa", sum := "150c43253b9c37b0afedfff3082f616127d1a77a67d4d77066885ecf080f9dd2", func := "loop.example/g00944/laws.FnExactItemsIn", spec := "fnExactItemsIn", apart := false, narrowed := true }
def FnExactItemsInUptoSaid : Prop := fnExactItemsInUptoRow.holds Try.pinned (OpenSpec.upto fnExactItemsInSpec)

/-- 'laws.FnExactCheaperOf', WHERE WHAT IT READS IS OF BULK AT MOST 1048576: true; the input reads as it did. -/
def fnExactCheaperOfUptoRow : OpenClaim := { program := "ytcfghfigpmiigaa", sum := "150c43253b9c37b0afedfff3082f616127d1a77a67d4d77066885ecf080f9dd2", func := "loop.example/g00944/laws.FnExactCheaperOf", spec := "fnExactCheaperOf", apart := false, narrowed := true }
def FnExactCheaperOfUptoSaid : Prop := fnExactCheaperOfUptoRow.holds Try.pinned (OpenSpec.upto fnExactCheaperOfSpec)

/-- 'laws.FnExactBreakEven', WHERE WHAT IT READS IS OF BULK AT MOST 1048576: true; the input reads as it did. -/
def fnExactBreakEvenUptoRow : OpenClaim := { program := "ytcfghfigpmiigaa", sum := "150c43253b9c37b0afedfff3082f616127d1a77a67d4d77066885ecf080f9dd2", func := "loop.example/g00944/laws.FnExactBreakEven", spec := "fnExactBreakEven", apart := false, narrowed := true }
def FnExactBreakEvenUptoSaid : Prop := fnExactBreakEvenUptoRow.holds Try.pinned (OpenSpec.upto fnExactBreakEvenSpec)

/-- 'laws.FnExactStepTime', WHERE WHAT IT READS IS OF BULK AT MOST 1048576: true; the input reads as it did. -/
def fnExactStepTimeUptoRow : OpenClaim := { program := "ytcfghfigpmiigaa", sum := "150c43253b9c37b0afedfff3082f616127d1a77a67d4d77066885ecf080f9dd2", func := "loop.example/g00944/laws.FnExactStepTime", spec := "fnExactStepTime", apart := false, narrowed := true }
def FnExactStepTimeUptoSaid : Prop := fnExactStepTimeUptoRow.holds Try.pinned (OpenSpec.upto fnExactStepTimeSpec)

/-- 'laws.FnExactAreFlowJobs', WHERE WHAT IT READS IS OF BULK AT MOST 1048576: true; the input reads as it did. -/
def fnExactAreFlowJobsUptoRow : OpenClaim := { program := "ytcfghfigpmiigaa", sum := "150c43253b9c37b0afedfff3082f616127d1a77a67d4d77066885ecf080f9dd2", func := "loop.example/g00944/laws.FnExactAreFlowJobs", spec := "fnExactAreFlowJobs", unfollowed := true, recurses := true, apart := false, narrowed := true }
def FnExactAreFlowJobsUptoSaid : Prop := fnExactAreFlowJobsUptoRow.holds Try.pinned (OpenSpec.upto fnExactAreFlowJobsSpec)

/-- 'laws.FnExactIsBill', WHERE WHAT IT READS IS OF BULK AT MOST 1048576: true; the input reads as it did. -/
def fnExactIsBillUptoRow : OpenClaim := { program := "ytcfghfigpmiigaa", sum := "150c43253b9c37b0afedfff3082f616127d1a77a67d4d77066885ecf080f9dd2", func := "loop.example/g00944/laws.FnExactIsBill", spec := "fnExactIsBill", unfollowed := true, recurses := true, apart := false, narrowed := true }
def FnExactIsBillUptoSaid : Prop := fnExactIsBillUptoRow.holds Try.pinned (OpenSpec.upto fnExactIsBillSpec)

/-- 'laws.FnExactShareTime', WHERE WHAT IT READS IS OF BULK AT MOST 1048576: true; the input reads as it did. -/
def fnExactShareTimeUptoRow : OpenClaim := { program := "ytcfghfigpmiigaa", sum := "150c43253b9c37b0afedfff3082f616127d1a77a67d4d77066885ecf080f9dd2", func := "loop.example/g00944/laws.FnExactShareTime", spec := "fnExactShareTime", apart := false, narrowed := true }
def FnExactShareTimeUptoSaid : Prop := fnExactShareTimeUptoRow.holds Try.pinned (OpenSpec.upto fnExactShareTimeSpec)

/-- 'laws.FnExactIsShop', WHERE WHAT IT READS IS OF BULK AT MOST 1048576: true; the input reads as it did. -/
def fnExactIsShopUptoRow : OpenClaim := { program := "ytcfghfigpmiigaa", sum := "150c43253b9c37b0afedfff3082f616127d1a77a67d4d77066885ecf080f9dd2", func := "loop.example/g00944/laws.FnExactIsShop", spec := "fnExactIsShop", unfollowed := true, recurses := true, apart := false, narrowed := true }
def FnExactIsShopUptoSaid : Prop := fnExactIsShopUptoRow.holds Try.pinned (OpenSpec.upto fnExactIsShopSpec)

end Rows
end Go.Proofs.Ytcfghfigpmiigaa
