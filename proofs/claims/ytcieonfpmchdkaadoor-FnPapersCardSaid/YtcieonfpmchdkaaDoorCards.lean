/-
  DERIVED. GIVEN WITH THE SEED: THE CARDS: each row of YtcieonfpmchdkaaDoorRows.lean that lists a variable, with what it lists TIED to the program's text (the seventh form; the later family's looks); each row that meets fmt, with fmt's text TOLD by the authors' own Lean function (tested against real Go, not proved from fmt's source: count such statements apart). THE CARD IS WHAT COUNTS. Prove the row's statement (the work); the ties are given (YtcieonfpmchdkaaDoorTie.lean); close each card by the builder's one call (the guide's Derived/Test/ToyasCard.lean, 'card_holds'). Laid BY PROGRAM, IN A SANDBOX (cutbox-door.mjs). By AI agents, Wed Nov 11 2026. No macro, syntax, notation, axiom, sorry.
-/
import Derived.Test.YtcieonfpmchdkaaDoorRows
import GoSem.ClaimSeven
namespace Go.Proofs.YtcieonfpmchdkaaDoor
namespace Rows

/-- THE TIED CARD OF 'laws.FnPapers'. -/
def fnPapersCard : Claim7 := { stood := { row := fnPapersRow, standIns := [], harness := (true, "b043b8931c3c551f295f1b65a77cc5981b7f0395efe8fc0e2152e8a13767649f"), looks := true }, kinds := [], alts := [], laidByText := true, laidKinds := [.data, .data, .data, .sentinel, .sentinel], laidTests := true, laidLooks := .later }
def FnPapersCardSaid : Prop := Claim7.holds Tryd.pinned (.plain (OpenSpec.ofChange fnPapersSpec)) fnPapersCard

/-- THE SECOND FORM's CARD OF 'laws.FnPapers'. -/
def fnPapersUptoCard : Claim7 := { stood := { row := fnPapersUptoRow, standIns := [], harness := (true, "b043b8931c3c551f295f1b65a77cc5981b7f0395efe8fc0e2152e8a13767649f"), looks := true }, kinds := [], alts := [], laidByText := true, laidKinds := [.data, .data, .data, .sentinel, .sentinel], laidTests := true, laidLooks := .later }
def FnPapersUptoCardSaid : Prop := Claim7.holds Tryd.pinned (.plain (OpenSpec.upto fnPapersSpec)) fnPapersUptoCard
end Rows
end Go.Proofs.YtcieonfpmchdkaaDoor
