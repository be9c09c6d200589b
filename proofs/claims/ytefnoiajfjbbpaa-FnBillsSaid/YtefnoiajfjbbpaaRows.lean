/-
  No cell of these rows narrows 'for every input' (looked for: loops, veiled, ifaces, maps, wideKeys, modest, calm, conditions, laid).
  DERIVED. THE GIVEN ROWS OF THIS SEAT. 11 by the template 'for every input the law returns true; each argument reads behind the call as it read before'; 0 by the template 'total and deterministic' (their statements: YtefnoiajfjbbpaaTotals.lean).
  GIVEN WITH THE SEED: the statements are not yours to turn. If you find one false, say at which input.
  Laid BY PROGRAM, IN A SANDBOX (cutbox-rows.mjs): the forced cells as the released guide's own fill.sh prints them over the translation 55fe19f0487d9158… (all of the seat's roots in one cut). By AI agents, Wed Nov 11 2026. No macro, syntax, notation, axiom, sorry.
-/
import Derived.Test.YtefnoiajfjbbpaaChecked
import GoSem.Claim
import GoSem.ClaimJoined
import GoSem.ClaimMapViews
import Derived.JoinedTies
import Derived.KernelRfl
namespace Go.Proofs.Ytefnoiajfjbbpaa
/- THE CELL 'sum', in the pinned program and in every row, IS THE sha256 OF THE DUMP (.gsa) THAT YtefnoiajfjbbpaaProg.lean LOADS. Nothing in Lean hashes anything: it is a label: what it is worth is what the hold of that sum in a sandbox is worth. -/
noncomputable def Try.pinned : Pinned := { name := "ytefnoiajfjbbpaa", sum := "55fe19f0487d91586129ec0d042aa32e3e83285ee5de502f7eb4d0a16b19ddb3", checked := Try.checked }
namespace Rows
def none {H : Type} : Left H := { results := [], args := [] }

/-- 'laws.FnExactFlowStarts': WHATEVER THE INPUT: true; the input reads as it did. -/
def fnExactFlowStartsSpec : ChangeSpec := { name := "fnExactFlowStarts", fn := fun _ => fun
  | [d1, d2] => { results := [.lit (.bool true)], args := [d1, d2] }
  | _ => none }
def fnExactFlowStartsRow : OpenClaim := { program := "ytefnoiajfjbbpaa", sum := "55fe19f0487d91586129ec0d042aa32e3e83285ee5de502f7eb4d0a16b19ddb3", func := "loop.example/g00944/laws.FnExactFlowStarts", spec := "fnExactFlowStarts", unfollowed := true, recurses := true, apart := false }
def FnExactFlowStartsSaid : Prop := fnExactFlowStartsRow.holds Try.pinned (OpenSpec.ofChange fnExactFlowStartsSpec)

/-- ITS FALSE NEIGHBOUR: 'it returns false'. Refute it at one input. -/
def fnExactFlowStartsWrong : ChangeSpec := { name := "fnExactFlowStarts", fn := fun _ => fun
  | [d1, d2] => { results := [.lit (.bool false)], args := [d1, d2] }
  | _ => none }
def FnExactFlowStartsWrongFalsely : Prop := fnExactFlowStartsRow.holds Try.pinned (OpenSpec.ofChange fnExactFlowStartsWrong)

/-- 'laws.FnExactBestOrder': WHATEVER THE INPUT: true; the input reads as it did. -/
def fnExactBestOrderSpec : ChangeSpec := { name := "fnExactBestOrder", fn := fun _ => fun
  | [d1, d2] => { results := [.lit (.bool true)], args := [d1, d2] }
  | _ => none }
def fnExactBestOrderRow : OpenClaim := { program := "ytefnoiajfjbbpaa", sum := "55fe19f0487d91586129ec0d042aa32e3e83285ee5de502f7eb4d0a16b19ddb3", func := "loop.example/g00944/laws.FnExactBestOrder", spec := "fnExactBestOrder", unfollowed := true, recurses := true, apart := false }
def FnExactBestOrderSaid : Prop := fnExactBestOrderRow.holds Try.pinned (OpenSpec.ofChange fnExactBestOrderSpec)

/-- ITS FALSE NEIGHBOUR: 'it returns false'. Refute it at one input. -/
def fnExactBestOrderWrong : ChangeSpec := { name := "fnExactBestOrder", fn := fun _ => fun
  | [d1, d2] => { results := [.lit (.bool false)], args := [d1, d2] }
  | _ => none }
def FnExactBestOrderWrongFalsely : Prop := fnExactBestOrderRow.holds Try.pinned (OpenSpec.ofChange fnExactBestOrderWrong)

/-- 'laws.FnDone': WHATEVER THE INPUT: true; the input reads as it did. -/
def fnDoneSpec : ChangeSpec := { name := "fnDone", fn := fun _ => fun
  | [d] => { results := [.lit (.bool true)], args := [d] }
  | _ => none }
def fnDoneRow : OpenClaim := { program := "ytefnoiajfjbbpaa", sum := "55fe19f0487d91586129ec0d042aa32e3e83285ee5de502f7eb4d0a16b19ddb3", func := "loop.example/g00944/laws.FnDone", spec := "fnDone", unfollowed := true, recurses := true, apart := false }
def FnDoneSaid : Prop := fnDoneRow.holds Try.pinned (OpenSpec.ofChange fnDoneSpec)

/-- ITS FALSE NEIGHBOUR: 'it returns false'. Refute it at one input. -/
def fnDoneWrong : ChangeSpec := { name := "fnDone", fn := fun _ => fun
  | [d] => { results := [.lit (.bool false)], args := [d] }
  | _ => none }
def FnDoneWrongFalsely : Prop := fnDoneRow.holds Try.pinned (OpenSpec.ofChange fnDoneWrong)

/-- 'laws.FnTurnedFlow': WHATEVER THE INPUT: true; the input reads as it did. -/
def fnTurnedFlowSpec : ChangeSpec := { name := "fnTurnedFlow", fn := fun _ => fun
  | [d] => { results := [.lit (.bool true)], args := [d] }
  | _ => none }
def fnTurnedFlowRow : OpenClaim := { program := "ytefnoiajfjbbpaa", sum := "55fe19f0487d91586129ec0d042aa32e3e83285ee5de502f7eb4d0a16b19ddb3", func := "loop.example/g00944/laws.FnTurnedFlow", spec := "fnTurnedFlow", unfollowed := true, recurses := true, apart := false }
def FnTurnedFlowSaid : Prop := fnTurnedFlowRow.holds Try.pinned (OpenSpec.ofChange fnTurnedFlowSpec)

/-- ITS FALSE NEIGHBOUR: 'it returns false'. Refute it at one input. -/
def fnTurnedFlowWrong : ChangeSpec := { name := "fnTurnedFlow", fn := fun _ => fun
  | [d] => { results := [.lit (.bool false)], args := [d] }
  | _ => none }
def FnTurnedFlowWrongFalsely : Prop := fnTurnedFlowRow.holds Try.pinned (OpenSpec.ofChange fnTurnedFlowWrong)

/-- 'laws.FnBills': WHATEVER THE INPUT: true; the input reads as it did. -/
def fnBillsSpec : ChangeSpec := { name := "fnBills", fn := fun _ => fun
  | [d] => { results := [.lit (.bool true)], args := [d] }
  | _ => none }
def fnBillsRow : OpenClaim := { program := "ytefnoiajfjbbpaa", sum := "55fe19f0487d91586129ec0d042aa32e3e83285ee5de502f7eb4d0a16b19ddb3", func := "loop.example/g00944/laws.FnBills", spec := "fnBills", unfollowed := true, recurses := true, apart := false }
def FnBillsSaid : Prop := fnBillsRow.holds Try.pinned (OpenSpec.ofChange fnBillsSpec)

/-- ITS FALSE NEIGHBOUR: 'it returns false'. Refute it at one input. -/
def fnBillsWrong : ChangeSpec := { name := "fnBills", fn := fun _ => fun
  | [d] => { results := [.lit (.bool false)], args := [d] }
  | _ => none }
def FnBillsWrongFalsely : Prop := fnBillsRow.holds Try.pinned (OpenSpec.ofChange fnBillsWrong)

/-- 'laws.FnOutputs': WHATEVER THE INPUT: true; the input reads as it did. -/
def fnOutputsSpec : ChangeSpec := { name := "fnOutputs", fn := fun _ => fun
  | [d] => { results := [.lit (.bool true)], args := [d] }
  | _ => none }
def fnOutputsRow : OpenClaim := { program := "ytefnoiajfjbbpaa", sum := "55fe19f0487d91586129ec0d042aa32e3e83285ee5de502f7eb4d0a16b19ddb3", func := "loop.example/g00944/laws.FnOutputs", spec := "fnOutputs", unfollowed := true, recurses := true, apart := false }
def FnOutputsSaid : Prop := fnOutputsRow.holds Try.pinned (OpenSpec.ofChange fnOutputsSpec)

/-- ITS FALSE NEIGHBOUR: 'it returns false'. Refute it at one input. -/
def fnOutputsWrong : ChangeSpec := { name := "fnOutputs", fn := fun _ => fun
  | [d] => { results := [.lit (.bool false)], args := [d] }
  | _ => none }
def FnOutputsWrongFalsely : Prop := fnOutputsRow.holds Try.pinned (OpenSpec.ofChange fnOutputsWrong)

/-- 'laws.FnExactDueOrder': WHATEVER THE INPUT: true; the input reads as it did. -/
def fnExactDueOrderSpec : ChangeSpec := { name := "fnExactDueOrder", fn := fun _ => fun
  | [d1, d2] => { results := [.lit (.bool true)], args := [d1, d2] }
  | _ => none }
def fnExactDueOrderRow : OpenClaim := { program := "ytefnoiajfjbbpaa", sum := "55fe19f0487d91586129ec0d042aa32e3e83285ee5de502f7eb4d0a16b19ddb3", func := "loop.example/g00944/laws.FnExactDueOrder", spec := "fnExactDueOrder", unfollowed := true, recurses := true, apart := false }
def FnExactDueOrderSaid : Prop := fnExactDueOrderRow.holds Try.pinned (OpenSpec.ofChange fnExactDueOrderSpec)

/-- ITS FALSE NEIGHBOUR: 'it returns false'. Refute it at one input. -/
def fnExactDueOrderWrong : ChangeSpec := { name := "fnExactDueOrder", fn := fun _ => fun
  | [d1, d2] => { results := [.lit (.bool false)], args := [d1, d2] }
  | _ => none }
def FnExactDueOrderWrongFalsely : Prop := fnExactDueOrderRow.holds Try.pinned (OpenSpec.ofChange fnExactDueOrderWrong)

/-- 'laws.FnExactLeastMakespan': WHATEVER THE INPUT: true; the input reads as it did. -/
def fnExactLeastMakespanSpec : ChangeSpec := { name := "fnExactLeastMakespan", fn := fun _ => fun
  | [d] => { results := [.lit (.bool true)], args := [d] }
  | _ => none }
def fnExactLeastMakespanRow : OpenClaim := { program := "ytefnoiajfjbbpaa", sum := "55fe19f0487d91586129ec0d042aa32e3e83285ee5de502f7eb4d0a16b19ddb3", func := "loop.example/g00944/laws.FnExactLeastMakespan", spec := "fnExactLeastMakespan", unfollowed := true, recurses := true, apart := false }
def FnExactLeastMakespanSaid : Prop := fnExactLeastMakespanRow.holds Try.pinned (OpenSpec.ofChange fnExactLeastMakespanSpec)

/-- ITS FALSE NEIGHBOUR: 'it returns false'. Refute it at one input. -/
def fnExactLeastMakespanWrong : ChangeSpec := { name := "fnExactLeastMakespan", fn := fun _ => fun
  | [d] => { results := [.lit (.bool false)], args := [d] }
  | _ => none }
def FnExactLeastMakespanWrongFalsely : Prop := fnExactLeastMakespanRow.holds Try.pinned (OpenSpec.ofChange fnExactLeastMakespanWrong)

/-- 'laws.FnExactTwoPartOrder': WHATEVER THE INPUT: true; the input reads as it did. -/
def fnExactTwoPartOrderSpec : ChangeSpec := { name := "fnExactTwoPartOrder", fn := fun _ => fun
  | [d] => { results := [.lit (.bool true)], args := [d] }
  | _ => none }
def fnExactTwoPartOrderRow : OpenClaim := { program := "ytefnoiajfjbbpaa", sum := "55fe19f0487d91586129ec0d042aa32e3e83285ee5de502f7eb4d0a16b19ddb3", func := "loop.example/g00944/laws.FnExactTwoPartOrder", spec := "fnExactTwoPartOrder", unfollowed := true, recurses := true, apart := false }
def FnExactTwoPartOrderSaid : Prop := fnExactTwoPartOrderRow.holds Try.pinned (OpenSpec.ofChange fnExactTwoPartOrderSpec)

/-- ITS FALSE NEIGHBOUR: 'it returns false'. Refute it at one input. -/
def fnExactTwoPartOrderWrong : ChangeSpec := { name := "fnExactTwoPartOrder", fn := fun _ => fun
  | [d] => { results := [.lit (.bool false)], args := [d] }
  | _ => none }
def FnExactTwoPartOrderWrongFalsely : Prop := fnExactTwoPartOrderRow.holds Try.pinned (OpenSpec.ofChange fnExactTwoPartOrderWrong)

/-- 'laws.FnExactFamilyOrder': WHATEVER THE INPUT: true; the input reads as it did. -/
def fnExactFamilyOrderSpec : ChangeSpec := { name := "fnExactFamilyOrder", fn := fun _ => fun
  | [d1, d2] => { results := [.lit (.bool true)], args := [d1, d2] }
  | _ => none }
def fnExactFamilyOrderRow : OpenClaim := { program := "ytefnoiajfjbbpaa", sum := "55fe19f0487d91586129ec0d042aa32e3e83285ee5de502f7eb4d0a16b19ddb3", func := "loop.example/g00944/laws.FnExactFamilyOrder", spec := "fnExactFamilyOrder", unfollowed := true, recurses := true, apart := false }
def FnExactFamilyOrderSaid : Prop := fnExactFamilyOrderRow.holds Try.pinned (OpenSpec.ofChange fnExactFamilyOrderSpec)

/-- ITS FALSE NEIGHBOUR: 'it returns false'. Refute it at one input. -/
def fnExactFamilyOrderWrong : ChangeSpec := { name := "fnExactFamilyOrder", fn := fun _ => fun
  | [d1, d2] => { results := [.lit (.bool false)], args := [d1, d2] }
  | _ => none }
def FnExactFamilyOrderWrongFalsely : Prop := fnExactFamilyOrderRow.holds Try.pinned (OpenSpec.ofChange fnExactFamilyOrderWrong)

/-- 'laws.FnFlow': WHATEVER THE INPUT: true; the input reads as it did. -/
def fnFlowSpec : ChangeSpec := { name := "fnFlow", fn := fun _ => fun
  | [d] => { results := [.lit (.bool true)], args := [d] }
  | _ => none }
def fnFlowRow : OpenClaim := { program := "ytefnoiajfjbbpaa", sum := "55fe19f0487d91586129ec0d042aa32e3e83285ee5de502f7eb4d0a16b19ddb3", func := "loop.example/g00944/laws.FnFlow", spec := "fnFlow", unfollowed := true, recurses := true, apart := false }
def FnFlowSaid : Prop := fnFlowRow.holds Try.pinned (OpenSpec.ofChange fnFlowSpec)

/-- ITS FALSE NEIGHBOUR: 'it returns false'. Refute it at one input. -/
def fnFlowWrong : ChangeSpec := { name := "fnFlow", fn := fun _ => fun
  | [d] => { results := [.lit (.bool false)], args := [d] }
  | _ => none }
def FnFlowWrongFalsely : Prop := fnFlowRow.holds Try.pinned (OpenSpec.ofChange fnFlowWrong)

/- THE SECOND FORM. 'bulk': how many values and letters a reading holds, each counted each time it is reached (what is shared counts as often as it is met; a slice's spare places count too). A statement '..UptoSaid' is the law's where the arguments, and the package variables that the reading takes, are together of bulk at most 1048576: NARROWER than '..Said'. Prove '..Said' where nothing that the law and all that it calls make is longer than what came in: it says more and counts as full. Else prove '..UptoSaid'. A law counts once. -/
mutual
def uptoBulk {H : Type} : DataW H → Nat
  | .lit (.string bytes) => bytes.length + 1
  | .lit _ => 1
  | .nil => 1
  | .ptr d => uptoBulk d + 1
  | .slice elems spare => uptoBulkAll elems + uptoBulkAll spare + 1
  | .agg parts => uptoBulkAll parts + 1
  | .iface _ d => uptoBulk d + 1
  | .map entries => uptoBulkEntries entries + 1
  | .held _ => 1
def uptoBulkAll {H : Type} : List (DataW H) → Nat
  | [] => 0
  | d :: r => uptoBulk d + uptoBulkAll r
def uptoBulkEntries {H : Type} : List (Lit × DataW H) → Nat
  | [] => 0
  | x :: r => uptoBulkEntry x + uptoBulkEntries r
def uptoBulkEntry {H : Type} : Lit × DataW H → Nat
  | (.string bytes, d) => bytes.length + uptoBulk d + 1
  | (_, d) => uptoBulk d + 1
 end
def uptoSmall : (H : Type) → List (DataW H) → Bool := fun _ ds => decide (uptoBulkAll ds ≤ 1048576)
def OpenSpec.upto (s : _root_.Go.ChangeSpec) : _root_.Go.OpenSpec := { _root_.Go.OpenSpec.ofChange s with cond := some uptoSmall }

/-- 'laws.FnExactFlowStarts', WHERE WHAT IT READS IS OF BULK AT MOST 1048576: true; the input reads as it did. -/
def fnExactFlowStartsUptoRow : OpenClaim := { program := "ytefnoiajfjbbpaa", sum := "55fe19f0487d91586129ec0d042aa32e3e83285ee5de502f7eb4d0a16b19ddb3", func := "loop.example/g00944/laws.FnExactFlowStarts", spec := "fnExactFlowStarts", unfollowed := true, recurses := true, apart := false, narrowed := true }
def FnExactFlowStartsUptoSaid : Prop := fnExactFlowStartsUptoRow.holds Try.pinned (OpenSpec.upto fnExactFlowStartsSpec)

/-- 'laws.FnExactBestOrder', WHERE WHAT IT READS IS OF BULK AT MOST 1048576: true; the input reads as it did. -/
def fnExactBestOrderUptoRow : OpenClaim := { program := "ytefnoiajfjbbpaa", sum := "55fe19f0487d91586129ec0d042aa32e3e83285ee5de502f7eb4d0a16b19ddb3", func := "loop.example/g00944/laws.FnExactBestOrder", spec := "fnExactBestOrder", unfollowed := true, recurses := true, apart := false, narrowed := true }
def FnExactBestOrderUptoSaid : Prop := fnExactBestOrderUptoRow.holds Try.pinned (OpenSpec.upto fnExactBestOrderSpec)

/-- 'laws.FnDone', WHERE WHAT IT READS IS OF BULK AT MOST 1048576: true; the input reads as it did. -/
def fnDoneUptoRow : OpenClaim := { program := "ytefnoiajfjbbpaa", sum := "55fe19f0487d91586129ec0d042aa32e3e83285ee5de502f7eb4d0a16b19ddb3", func := "loop.example/g00944/laws.FnDone", spec := "fnDone", unfollowed := true, recurses := true, apart := false, narrowed := true }
def FnDoneUptoSaid : Prop := fnDoneUptoRow.holds Try.pinned (OpenSpec.upto fnDoneSpec)

/-- 'laws.FnTurnedFlow', WHERE WHAT IT READS IS OF BULK AT MOST 1048576: true; the input reads as it did. -/
def fnTurnedFlowUptoRow : OpenClaim := { program := "ytefnoiajfjbbpaa", sum := "55fe19f0487d91586129ec0d042aa32e3e83285ee5de502f7eb4d0a16b19ddb3", func := "loop.example/g00944/laws.FnTurnedFlow", spec := "fnTurnedFlow", unfollowed := true, recurses := true, apart := false, narrowed := true }
def FnTurnedFlowUptoSaid : Prop := fnTurnedFlowUptoRow.holds Try.pinned (OpenSpec.upto fnTurnedFlowSpec)

/-- 'laws.FnBills', WHERE WHAT IT READS IS OF BULK AT MOST 1048576: true; the input reads as it did. -/
def fnBillsUptoRow : OpenClaim := { program := "ytefnoiajfjbbpaa", sum := "55fe19f0487d91586129ec0d042aa32e3e83285ee5de502f7eb4d0a16b19ddb3", func := "loop.example/g00944/laws.FnBills", spec := "fnBills", unfollowed := true, recurses := true, apart := false, narrowed := true }
def FnBillsUptoSaid : Prop := fnBillsUptoRow.holds Try.pinned (OpenSpec.upto fnBillsSpec)

/-- 'laws.FnOutputs', WHERE WHAT IT READS IS OF BULK AT MOST 1048576: true; the input reads as it did. -/
def fnOutputsUptoRow : OpenClaim := { program := "ytefnoiajfjbbpaa", sum := "55fe19f0487d91586129ec0d042aa32e3e83285ee5de502f7eb4d0a16b19ddb3", func := "loop.example/g00944/laws.FnOutputs", spec := "fnOutputs", unfollowed := true, recurses := true, apart := false, narrowed := true }
def FnOutputsUptoSaid : Prop := fnOutputsUptoRow.holds Try.pinned (OpenSpec.upto fnOutputsSpec)

/-- 'laws.FnExactDueOrder', WHERE WHAT IT READS IS OF BULK AT MOST 1048576: true; the input reads as it did. -/
def fnExactDueOrderUptoRow : OpenClaim := { program := "ytefnoiajfjbbpaa", sum := "55fe19f0487d91586129ec0d042aa32e3e83285ee5de502f7eb4d0a16b19ddb3", func := "loop.example/g00944/laws.FnExactDueOrder", spec := "fnExactDueOrder", unfollowed := true, recurses := true, apart := false, narrowed := true }
def FnExactDueOrderUptoSaid : Prop := fnExactDueOrderUptoRow.holds Try.pinned (OpenSpec.upto fnExactDueOrderSpec)

/-- 'laws.FnExactLeastMakespan', WHERE WHAT IT READS IS OF BULK AT MOST 1048576: true; the input reads as it did. -/
def fnExactLeastMakespanUptoRow : OpenClaim := { program := "ytefnoiajfjbbpaa", sum := "55fe19f0487d91586129ec0d042aa32e3e83285ee5de502f7eb4d0a16b19ddb3", func := "loop.example/g00944/laws.FnExactLeastMakespan", spec := "fnExactLeastMakespan", unfollowed := true, recurses := true, apart := false, narrowed := true }
def FnExactLeastMakespanUptoSaid : Prop := fnExactLeastMakespanUptoRow.holds Try.pinned (OpenSpec.upto fnExactLeastMakespanSpec)

/-- 'laws.FnExactTwoPartOrder', WHERE WHAT IT READS IS OF BULK AT MOST 1048576: true; the input reads as it did. -/
def fnExactTwoPartOrderUptoRow : OpenClaim := { program := "ytefnoiajfjbbpaa", sum := "55fe19f0487d91586129ec0d042aa32e3e83285ee5de502f7eb4d0a16b19ddb3", func := "loop.example/g00944/laws.FnExactTwoPartOrder", spec := "fnExactTwoPartOrder", unfollowed := true, recurses := true, apart := false, narrowed := true }
def FnExactTwoPartOrderUptoSaid : Prop := fnExactTwoPartOrderUptoRow.holds Try.pinned (OpenSpec.upto fnExactTwoPartOrderSpec)

/-- 'laws.FnExactFamilyOrder', WHERE WHAT IT READS IS OF BULK AT MOST 1048576: true; the input reads as it did. -/
def fnExactFamilyOrderUptoRow : OpenClaim := { program := "ytefnoiajfjbbpaa", sum := "55fe19f0487d91586129ec0d042aa32e3e83285ee5de502f7eb4d0a16b19ddb3", func := "loop.example/g00944/laws.FnExactFamilyOrder", spec := "fnExactFamilyOrder", unfollowed := true, recurses := true, apart := false, narrowed := true }
def FnExactFamilyOrderUptoSaid : Prop := fnExactFamilyOrderUptoRow.holds Try.pinned (OpenSpec.upto fnExactFamilyOrderSpec)

/-- 'laws.FnFlow', WHERE WHAT IT READS IS OF BULK AT MOST 1048576: true; the input reads as it did. -/
def fnFlowUptoRow : OpenClaim := { program := "ytefnoiajfjbbpaa", sum := "55fe19f0487d91586129ec0d042aa32e3e83285ee5de502f7eb4d0a16b19ddb3", func := "loop.example/g00944/laws.FnFlow", spec := "fnFlow", unfollowed := true, recurses := true, apart := false, narrowed := true }
def FnFlowUptoSaid : Prop := fnFlowUptoRow.holds Try.pinned (OpenSpec.upto fnFlowSpec)

end Rows
end Go.Proofs.Ytefnoiajfjbbpaa
