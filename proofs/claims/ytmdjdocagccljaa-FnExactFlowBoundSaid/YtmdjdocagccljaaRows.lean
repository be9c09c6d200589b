/-
  No cell of these rows narrows 'for every input' (looked for: loops, veiled, ifaces, maps, wideKeys, modest, calm, conditions, laid).
  DERIVED. THE GIVEN ROWS OF THIS SEAT. 10 by the template 'for every input the law returns true; each argument reads behind the call as it read before'; 0 by the template 'total and deterministic' (their statements: YtmdjdocagccljaaTotals.lean).
  GIVEN WITH THE SEED: the statements are not yours to turn. If you find one false, say at which input.
  Laid BY PROGRAM, IN A SANDBOX (cutbox-rows.mjs): the forced cells as the released guide's own fill.sh prints them over the translation e0bfd0ee017eac63… (all of the seat's roots in one cut). By AI agents, Wed Nov 11 2026. No macro, syntax, notation, axiom, sorry.
-/
import Derived.Test.YtmdjdocagccljaaChecked
import GoSem.Claim
import GoSem.ClaimJoined
import GoSem.ClaimMapViews
import Derived.JoinedTies
import Derived.KernelRfl
namespace Go.Proofs.Ytmdjdocagccljaa
/- THE CELL 'sum', in the pinned program and in every row, IS THE sha256 OF THE DUMP (.gsa) THAT YtmdjdocagccljaaProg.lean LOADS. Nothing in Lean hashes anything: it is a label: what it is worth is what the hold of that sum in a sandbox is worth. -/
noncomputable def Try.pinned : Pinned := { name := "ytmdjdocagccljaa", sum := "e0bfd0ee017eac63e3343d170f9117a10b8e08e6f11010a4c17d7759b4ef41c4", checked := Try.checked }
namespace Rows
def none {H : Type} : Left H := { results := [], args := [] }

/-- 'laws.FnExactIsRoute': WHATEVER THE INPUT: true; the input reads as it did. -/
def fnExactIsRouteSpec : ChangeSpec := { name := "fnExactIsRoute", fn := fun _ => fun
  | [d] => { results := [.lit (.bool true)], args := [d] }
  | _ => none }
def fnExactIsRouteRow : OpenClaim := { program := "ytmdjdocagccljaa", sum := "e0bfd0ee017eac63e3343d170f9117a10b8e08e6f11010a4c17d7759b4ef41c4", func := "loop.example/g00944/laws.FnExactIsRoute", spec := "fnExactIsRoute", unfollowed := true, recurses := true, apart := false }
def FnExactIsRouteSaid : Prop := fnExactIsRouteRow.holds Try.pinned (OpenSpec.ofChange fnExactIsRouteSpec)

/-- ITS FALSE NEIGHBOUR: 'it returns false'. Refute it at one input. -/
def fnExactIsRouteWrong : ChangeSpec := { name := "fnExactIsRoute", fn := fun _ => fun
  | [d] => { results := [.lit (.bool false)], args := [d] }
  | _ => none }
def FnExactIsRouteWrongFalsely : Prop := fnExactIsRouteRow.holds Try.pinned (OpenSpec.ofChange fnExactIsRouteWrong)

/-- 'laws.FnExactIsOrderBook': WHATEVER THE INPUT: true; the input reads as it did. -/
def fnExactIsOrderBookSpec : ChangeSpec := { name := "fnExactIsOrderBook", fn := fun _ => fun
  | [d] => { results := [.lit (.bool true)], args := [d] }
  | _ => none }
def fnExactIsOrderBookRow : OpenClaim := { program := "ytmdjdocagccljaa", sum := "e0bfd0ee017eac63e3343d170f9117a10b8e08e6f11010a4c17d7759b4ef41c4", func := "loop.example/g00944/laws.FnExactIsOrderBook", spec := "fnExactIsOrderBook", apart := false }
def FnExactIsOrderBookSaid : Prop := fnExactIsOrderBookRow.holds Try.pinned (OpenSpec.ofChange fnExactIsOrderBookSpec)

/-- ITS FALSE NEIGHBOUR: 'it returns false'. Refute it at one input. -/
def fnExactIsOrderBookWrong : ChangeSpec := { name := "fnExactIsOrderBook", fn := fun _ => fun
  | [d] => { results := [.lit (.bool false)], args := [d] }
  | _ => none }
def FnExactIsOrderBookWrongFalsely : Prop := fnExactIsOrderBookRow.holds Try.pinned (OpenSpec.ofChange fnExactIsOrderBookWrong)

/-- 'laws.FnExactSumOfBill': WHATEVER THE INPUT: true; the input reads as it did. -/
def fnExactSumOfBillSpec : ChangeSpec := { name := "fnExactSumOfBill", fn := fun _ => fun
  | [d] => { results := [.lit (.bool true)], args := [d] }
  | _ => none }
def fnExactSumOfBillRow : OpenClaim := { program := "ytmdjdocagccljaa", sum := "e0bfd0ee017eac63e3343d170f9117a10b8e08e6f11010a4c17d7759b4ef41c4", func := "loop.example/g00944/laws.FnExactSumOfBill", spec := "fnExactSumOfBill", unfollowed := true, recurses := true, apart := false }
def FnExactSumOfBillSaid : Prop := fnExactSumOfBillRow.holds Try.pinned (OpenSpec.ofChange fnExactSumOfBillSpec)

/-- ITS FALSE NEIGHBOUR: 'it returns false'. Refute it at one input. -/
def fnExactSumOfBillWrong : ChangeSpec := { name := "fnExactSumOfBill", fn := fun _ => fun
  | [d] => { results := [.lit (.bool false)], args := [d] }
  | _ => none }
def FnExactSumOfBillWrongFalsely : Prop := fnExactSumOfBillRow.holds Try.pinned (OpenSpec.ofChange fnExactSumOfBillWrong)

/-- 'laws.FnExactFindPaper': WHATEVER THE INPUT: true; the input reads as it did. -/
def fnExactFindPaperSpec : ChangeSpec := { name := "fnExactFindPaper", fn := fun _ => fun
  | [d1, d2, d3] => { results := [.lit (.bool true)], args := [d1, d2, d3] }
  | _ => none }
def fnExactFindPaperRow : OpenClaim := { program := "ytmdjdocagccljaa", sum := "e0bfd0ee017eac63e3343d170f9117a10b8e08e6f11010a4c17d7759b4ef41c4", func := "loop.example/g00944/laws.FnExactFindPaper", spec := "fnExactFindPaper", unfollowed := true, recurses := true, apart := false }
def FnExactFindPaperSaid : Prop := fnExactFindPaperRow.holds Try.pinned (OpenSpec.ofChange fnExactFindPaperSpec)

/-- ITS FALSE NEIGHBOUR: 'it returns false'. Refute it at one input. -/
def fnExactFindPaperWrong : ChangeSpec := { name := "fnExactFindPaper", fn := fun _ => fun
  | [d1, d2, d3] => { results := [.lit (.bool false)], args := [d1, d2, d3] }
  | _ => none }
def FnExactFindPaperWrongFalsely : Prop := fnExactFindPaperRow.holds Try.pinned (OpenSpec.ofChange fnExactFindPaperWrong)

/-- 'laws.FnExactPartsThickness': WHATEVER THE INPUT: true; the input reads as it did. -/
def fnExactPartsThicknessSpec : ChangeSpec := { name := "fnExactPartsThickness", fn := fun _ => fun
  | [d] => { results := [.lit (.bool true)], args := [d] }
  | _ => none }
def fnExactPartsThicknessRow : OpenClaim := { program := "ytmdjdocagccljaa", sum := "e0bfd0ee017eac63e3343d170f9117a10b8e08e6f11010a4c17d7759b4ef41c4", func := "loop.example/g00944/laws.FnExactPartsThickness", spec := "fnExactPartsThickness", unfollowed := true, recurses := true, apart := false }
def FnExactPartsThicknessSaid : Prop := fnExactPartsThicknessRow.holds Try.pinned (OpenSpec.ofChange fnExactPartsThicknessSpec)

/-- ITS FALSE NEIGHBOUR: 'it returns false'. Refute it at one input. -/
def fnExactPartsThicknessWrong : ChangeSpec := { name := "fnExactPartsThickness", fn := fun _ => fun
  | [d] => { results := [.lit (.bool false)], args := [d] }
  | _ => none }
def FnExactPartsThicknessWrongFalsely : Prop := fnExactPartsThicknessRow.holds Try.pinned (OpenSpec.ofChange fnExactPartsThicknessWrong)

/-- 'laws.FnExactOpenCopies': WHATEVER THE INPUT: true; the input reads as it did. -/
def fnExactOpenCopiesSpec : ChangeSpec := { name := "fnExactOpenCopies", fn := fun _ => fun
  | [d] => { results := [.lit (.bool true)], args := [d] }
  | _ => none }
def fnExactOpenCopiesRow : OpenClaim := { program := "ytmdjdocagccljaa", sum := "e0bfd0ee017eac63e3343d170f9117a10b8e08e6f11010a4c17d7759b4ef41c4", func := "loop.example/g00944/laws.FnExactOpenCopies", spec := "fnExactOpenCopies", apart := false }
def FnExactOpenCopiesSaid : Prop := fnExactOpenCopiesRow.holds Try.pinned (OpenSpec.ofChange fnExactOpenCopiesSpec)

/-- ITS FALSE NEIGHBOUR: 'it returns false'. Refute it at one input. -/
def fnExactOpenCopiesWrong : ChangeSpec := { name := "fnExactOpenCopies", fn := fun _ => fun
  | [d] => { results := [.lit (.bool false)], args := [d] }
  | _ => none }
def FnExactOpenCopiesWrongFalsely : Prop := fnExactOpenCopiesRow.holds Try.pinned (OpenSpec.ofChange fnExactOpenCopiesWrong)

/-- 'laws.FnExactQuoteOf': WHATEVER THE INPUT: true; the input reads as it did. -/
def fnExactQuoteOfSpec : ChangeSpec := { name := "fnExactQuoteOf", fn := fun _ => fun
  | [d1, d2, d3] => { results := [.lit (.bool true)], args := [d1, d2, d3] }
  | _ => none }
def fnExactQuoteOfRow : OpenClaim := { program := "ytmdjdocagccljaa", sum := "e0bfd0ee017eac63e3343d170f9117a10b8e08e6f11010a4c17d7759b4ef41c4", func := "loop.example/g00944/laws.FnExactQuoteOf", spec := "fnExactQuoteOf", unfollowed := true, recurses := true, apart := false }
def FnExactQuoteOfSaid : Prop := fnExactQuoteOfRow.holds Try.pinned (OpenSpec.ofChange fnExactQuoteOfSpec)

/-- ITS FALSE NEIGHBOUR: 'it returns false'. Refute it at one input. -/
def fnExactQuoteOfWrong : ChangeSpec := { name := "fnExactQuoteOf", fn := fun _ => fun
  | [d1, d2, d3] => { results := [.lit (.bool false)], args := [d1, d2, d3] }
  | _ => none }
def FnExactQuoteOfWrongFalsely : Prop := fnExactQuoteOfRow.holds Try.pinned (OpenSpec.ofChange fnExactQuoteOfWrong)

/-- 'laws.FnExactFlowBound': WHATEVER THE INPUT: true; the input reads as it did. -/
def fnExactFlowBoundSpec : ChangeSpec := { name := "fnExactFlowBound", fn := fun _ => fun
  | [d] => { results := [.lit (.bool true)], args := [d] }
  | _ => none }
def fnExactFlowBoundRow : OpenClaim := { program := "ytmdjdocagccljaa", sum := "e0bfd0ee017eac63e3343d170f9117a10b8e08e6f11010a4c17d7759b4ef41c4", func := "loop.example/g00944/laws.FnExactFlowBound", spec := "fnExactFlowBound", unfollowed := true, recurses := true, apart := false }
def FnExactFlowBoundSaid : Prop := fnExactFlowBoundRow.holds Try.pinned (OpenSpec.ofChange fnExactFlowBoundSpec)

/-- ITS FALSE NEIGHBOUR: 'it returns false'. Refute it at one input. -/
def fnExactFlowBoundWrong : ChangeSpec := { name := "fnExactFlowBound", fn := fun _ => fun
  | [d] => { results := [.lit (.bool false)], args := [d] }
  | _ => none }
def FnExactFlowBoundWrongFalsely : Prop := fnExactFlowBoundRow.holds Try.pinned (OpenSpec.ofChange fnExactFlowBoundWrong)

/-- 'laws.FnExactRouteTime': WHATEVER THE INPUT: true; the input reads as it did. -/
def fnExactRouteTimeSpec : ChangeSpec := { name := "fnExactRouteTime", fn := fun _ => fun
  | [d1, d2] => { results := [.lit (.bool true)], args := [d1, d2] }
  | _ => none }
def fnExactRouteTimeRow : OpenClaim := { program := "ytmdjdocagccljaa", sum := "e0bfd0ee017eac63e3343d170f9117a10b8e08e6f11010a4c17d7759b4ef41c4", func := "loop.example/g00944/laws.FnExactRouteTime", spec := "fnExactRouteTime", unfollowed := true, recurses := true, apart := false }
def FnExactRouteTimeSaid : Prop := fnExactRouteTimeRow.holds Try.pinned (OpenSpec.ofChange fnExactRouteTimeSpec)

/-- ITS FALSE NEIGHBOUR: 'it returns false'. Refute it at one input. -/
def fnExactRouteTimeWrong : ChangeSpec := { name := "fnExactRouteTime", fn := fun _ => fun
  | [d1, d2] => { results := [.lit (.bool false)], args := [d1, d2] }
  | _ => none }
def FnExactRouteTimeWrongFalsely : Prop := fnExactRouteTimeRow.holds Try.pinned (OpenSpec.ofChange fnExactRouteTimeWrong)

/-- 'laws.FnExactSlowestStep': WHATEVER THE INPUT: true; the input reads as it did. -/
def fnExactSlowestStepSpec : ChangeSpec := { name := "fnExactSlowestStep", fn := fun _ => fun
  | [d1, d2] => { results := [.lit (.bool true)], args := [d1, d2] }
  | _ => none }
def fnExactSlowestStepRow : OpenClaim := { program := "ytmdjdocagccljaa", sum := "e0bfd0ee017eac63e3343d170f9117a10b8e08e6f11010a4c17d7759b4ef41c4", func := "loop.example/g00944/laws.FnExactSlowestStep", spec := "fnExactSlowestStep", unfollowed := true, recurses := true, apart := false }
def FnExactSlowestStepSaid : Prop := fnExactSlowestStepRow.holds Try.pinned (OpenSpec.ofChange fnExactSlowestStepSpec)

/-- ITS FALSE NEIGHBOUR: 'it returns false'. Refute it at one input. -/
def fnExactSlowestStepWrong : ChangeSpec := { name := "fnExactSlowestStep", fn := fun _ => fun
  | [d1, d2] => { results := [.lit (.bool false)], args := [d1, d2] }
  | _ => none }
def FnExactSlowestStepWrongFalsely : Prop := fnExactSlowestStepRow.holds Try.pinned (OpenSpec.ofChange fnExactSlowestStepWrong)

/- THE SECOND FORM. 'bulk': how many values and letters a reading holds, each counted each time it is reached (what is shared counts as often as it is met; a slice's spare places count too). A statement '..UptoSaid' is the law's where the arguments, and the package variables that the reading takes, are together of bulk at most 1048576: NARROWER than '..Said'. Prove '..Said' where nothing that the law and all that it calls make is longer than what came in: it says more and counts as full. Else prove '..UptoSaid'. A law counts once. -/
mutual
def uptoBulk {H : Type} : DataW H → Nat
  | .lit (.string bytes) => bytes.length + 1
  | .lit _ => 1
  | .nil => 1
  | .ptr d => uptoBulk d + 1
  | .slice elems spare => uptoBulkAll elems + uptoBulkAll spare + 1
  | .agg parts => uptoBulkAll parts + 1
  | .iface _ d => uptoBulk d + 1
  | .map entries => uptoBulkEntries entries + 1
  | .held _ => 1
def uptoBulkAll {H : Type} : List (DataW H) → Nat
  | [] => 0
  | d :: r => uptoBulk d + uptoBulkAll r
def uptoBulkEntries {H : Type} : List (Lit × DataW H) → Nat
  | [] => 0
  | x :: r => uptoBulkEntry x + uptoBulkEntries r
def uptoBulkEntry {H : Type} : Lit × DataW H → Nat
  | (.string bytes, d) => bytes.length + uptoBulk d + 1
  | (_, d) => uptoBulk d + 1
 end
def uptoSmall : (H : Type) → List (DataW H) → Bool := fun _ ds => decide (uptoBulkAll ds ≤ 1048576)
def OpenSpec.upto (s : _root_.Go.ChangeSpec) : _root_.Go.OpenSpec := { _root_.Go.OpenSpec.ofChange s with cond := some uptoSmall }

/-- 'laws.FnExactIsRoute', WHERE WHAT IT READS IS OF BULK AT MOST 1048576: true; the input reads as it did. -/
def fnExactIsRouteUptoRow : OpenClaim := { program := "ytmdjdocagccljaa", sum := "e0bfd0ee017eac63e3343d170f9117a10b8e08e6f11010a4c17d7759b4ef41c4", func := "loop.example/g00944/laws.FnExactIsRoute", spec := "fnExactIsRoute", unfollowed := true, recurses := true, apart := false, narrowed := true }
def FnExactIsRouteUptoSaid : Prop := fnExactIsRouteUptoRow.holds Try.pinned (OpenSpec.upto fnExactIsRouteSpec)

/-- 'laws.FnExactIsOrderBook', WHERE WHAT IT READS IS OF BULK AT MOST 1048576: true; the input reads as it did. -/
def fnExactIsOrderBookUptoRow : OpenClaim := { program := "ytmdjdocagccljaa", sum := "e0bfd0ee017eac63e3343d170f9117a10b8e08e6f11010a4c17d7759b4ef41c4", func := "loop.example/g00944/laws.FnExactIsOrderBook", spec := "fnExactIsOrderBook", apart := false, narrowed := true }
def FnExactIsOrderBookUptoSaid : Prop := fnExactIsOrderBookUptoRow.holds Try.pinned (OpenSpec.upto fnExactIsOrderBookSpec)

/-- 'laws.FnExactSumOfBill', WHERE WHAT IT READS IS OF BULK AT MOST 1048576: true; the input reads as it did. -/
def fnExactSumOfBillUptoRow : OpenClaim := { program := "ytmdjdocagccljaa", sum := "e0bfd0ee017eac63e3343d170f9117a10b8e08e6f11010a4c17d7759b4ef41c4", func := "loop.example/g00944/laws.FnExactSumOfBill", spec := "fnExactSumOfBill", unfollowed := true, recurses := true, apart := false, narrowed := true }
def FnExactSumOfBillUptoSaid : Prop := fnExactSumOfBillUptoRow.holds Try.pinned (OpenSpec.upto fnExactSumOfBillSpec)

/-- 'laws.FnExactFindPaper', WHERE WHAT IT READS IS OF BULK AT MOST 1048576: true; the input reads as it did. -/
def fnExactFindPaperUptoRow : OpenClaim := { program := "ytmdjdocagccljaa", sum := "e0bfd0ee017eac63e3343d170f9117a10b8e08e6f11010a4c17d7759b4ef41c4", func := "loop.example/g00944/laws.FnExactFindPaper", spec := "fnExactFindPaper", unfollowed := true, recurses := true, apart := false, narrowed := true }
def FnExactFindPaperUptoSaid : Prop := fnExactFindPaperUptoRow.holds Try.pinned (OpenSpec.upto fnExactFindPaperSpec)

/-- 'laws.FnExactPartsThickness', WHERE WHAT IT READS IS OF BULK AT MOST 1048576: true; the input reads as it did. -/
def fnExactPartsThicknessUptoRow : OpenClaim := { program := "ytmdjdocagccljaa", sum := "e0bfd0ee017eac63e3343d170f9117a10b8e08e6f11010a4c17d7759b4ef41c4", func := "loop.example/g00944/laws.FnExactPartsThickness", spec := "fnExactPartsThickness", unfollowed := true, recurses := true, apart := false, narrowed := true }
def FnExactPartsThicknessUptoSaid : Prop := fnExactPartsThicknessUptoRow.holds Try.pinned (OpenSpec.upto fnExactPartsThicknessSpec)

/-- 'laws.FnExactOpenCopies', WHERE WHAT IT READS IS OF BULK AT MOST 1048576: true; the input reads as it did. -/
def fnExactOpenCopiesUptoRow : OpenClaim := { program := "ytmdjdocagccljaa", sum := "e0bfd0ee017eac63e3343d170f9117a10b8e08e6f11010a4c17d7759b4ef41c4", func := "loop.example/g00944/laws.FnExactOpenCopies", spec := "fnExactOpenCopies", apart := false, narrowed := true }
def FnExactOpenCopiesUptoSaid : Prop := fnExactOpenCopiesUptoRow.holds Try.pinned (OpenSpec.upto fnExactOpenCopiesSpec)

/-- 'laws.FnExactQuoteOf', WHERE WHAT IT READS IS OF BULK AT MOST 1048576: true; the input reads as it did. -/
def fnExactQuoteOfUptoRow : OpenClaim := { program := "ytmdjdocagccljaa", sum := "e0bfd0ee017eac63e3343d170f9117a10b8e08e6f11010a4c17d7759b4ef41c4", func := "loop.example/g00944/laws.FnExactQuoteOf", spec := "fnExactQuoteOf", unfollowed := true, recurses := true, apart := false, narrowed := true }
def FnExactQuoteOfUptoSaid : Prop := fnExactQuoteOfUptoRow.holds Try.pinned (OpenSpec.upto fnExactQuoteOfSpec)

/-- 'laws.FnExactFlowBound', WHERE WHAT IT READS IS OF BULK AT MOST 1048576: true; the input reads as it did. -/
def fnExactFlowBoundUptoRow : OpenClaim := { program := "ytmdjdocagccljaa", sum := "e0bfd0ee017eac63e3343d170f9117a10b8e08e6f11010a4c17d7759b4ef41c4", func := "loop.example/g00944/laws.FnExactFlowBound", spec := "fnExactFlowBound", unfollowed := true, recurses := true, apart := false, narrowed := true }
def FnExactFlowBoundUptoSaid : Prop := fnExactFlowBoundUptoRow.holds Try.pinned (OpenSpec.upto fnExactFlowBoundSpec)

/-- 'laws.FnExactRouteTime', WHERE WHAT IT READS IS OF BULK AT MOST 1048576: true; the input reads as it did. -/
def fnExactRouteTimeUptoRow : OpenClaim := { program := "ytmdjdocagccljaa", sum := "e0bfd0ee017eac63e3343d170f9117a10b8e08e6f11010a4c17d7759b4ef41c4", func := "loop.example/g00944/laws.FnExactRouteTime", spec := "fnExactRouteTime", unfollowed := true, recurses := true, apart := false, narrowed := true }
def FnExactRouteTimeUptoSaid : Prop := fnExactRouteTimeUptoRow.holds Try.pinned (OpenSpec.upto fnExactRouteTimeSpec)

/-- 'laws.FnExactSlowestStep', WHERE WHAT IT READS IS OF BULK AT MOST 1048576: true; the input reads as it did. -/
def fnExactSlowestStepUptoRow : OpenClaim := { program := "ytmdjdocagccljaa", sum := "e0bfd0ee017eac63e3343d170f9117a10b8e08e6f11010a4c17d7759b4ef41c4", func := "loop.example/g00944/laws.FnExactSlowestStep", spec := "fnExactSlowestStep", unfollowed := true, recurses := true, apart := false, narrowed := true }
def FnExactSlowestStepUptoSaid : Prop := fnExactSlowestStepUptoRow.holds Try.pinned (OpenSpec.upto fnExactSlowestStepSpec)

end Rows
end Go.Proofs.Ytmdjdocagccljaa
