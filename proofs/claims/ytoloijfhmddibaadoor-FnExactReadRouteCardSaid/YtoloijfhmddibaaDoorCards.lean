/-
  DERIVED. GIVEN WITH THE SEED: THE CARDS: each row of YtoloijfhmddibaaDoorRows.lean that lists a variable, with what it lists TIED to the program's text (the seventh form; the later family's looks); each row that meets fmt, with fmt's text TOLD by the authors' own Lean function (tested against real Go, not proved from fmt's source: count such statements apart). THE CARD IS WHAT COUNTS. Prove the row's statement (the work); the ties are given (YtoloijfhmddibaaDoorTie.lean); close each card by the builder's one call (the guide's Derived/Test/ToyasCard.lean, 'card_holds'). Laid BY PROGRAM, IN A SANDBOX (cutbox-door.mjs). By AI agents, Wed Nov 11 2026. No macro, syntax, notation, axiom, sorry.
-/
import Derived.Test.YtoloijfhmddibaaDoorRows
import GoSem.ClaimSeven
namespace Go.Proofs.YtoloijfhmddibaaDoor
namespace Rows

/-- THE TIED CARD OF 'laws.FnPapers'. -/
def fnPapersCard : Claim7 := { stood := { row := fnPapersRow, standIns := [], harness := (true, "5737686a068f0cbf6462cb42bf71d801f3cda481b9a6c96b8633056149e42c05"), looks := true }, kinds := [], alts := [], laidByText := true, laidKinds := [.data, .data, .data, .sentinel, .sentinel], laidTests := true, laidLooks := .later }
def FnPapersCardSaid : Prop := Claim7.holds Tryd.pinned (.plain (OpenSpec.ofChange fnPapersSpec)) fnPapersCard

/-- THE TIED CARD OF 'laws.FnExactReadRoute'. -/
def fnExactReadRouteCard : Claim7 := { stood := { row := fnExactReadRouteRow, standIns := [], harness := (true, "5737686a068f0cbf6462cb42bf71d801f3cda481b9a6c96b8633056149e42c05"), looks := true }, kinds := [], alts := [], laidByText := true, laidKinds := [.data, .data, .data, .data, .sentinel, .sentinel, .pinned], laidTests := true, laidLooks := .later }
def FnExactReadRouteCardSaid : Prop := Claim7.holds Tryd.pinned (.plain (OpenSpec.ofChange fnExactReadRouteSpec)) fnExactReadRouteCard

/-- THE TIED CARD OF 'laws.FnExactPaperText'. -/
def fnExactPaperTextCard : Claim7 := { stood := { row := fnExactPaperTextRow, standIns := [], harness := (true, "5737686a068f0cbf6462cb42bf71d801f3cda481b9a6c96b8633056149e42c05"), looks := true }, kinds := [], alts := [], laidByText := true, laidKinds := [.data, .data, .data], laidTests := true, laidLooks := .later }
def FnExactPaperTextCardSaid : Prop := Claim7.holds Tryd.pinned (.plain (OpenSpec.ofChange fnExactPaperTextSpec)) fnExactPaperTextCard

/-- THE TIED CARD OF 'laws.FnExactReadPaper'. -/
def fnExactReadPaperCard : Claim7 := { stood := { row := fnExactReadPaperRow, standIns := [], harness := (true, "5737686a068f0cbf6462cb42bf71d801f3cda481b9a6c96b8633056149e42c05"), looks := true }, kinds := [], alts := [], laidByText := true, laidKinds := [.data, .data, .data, .sentinel, .sentinel], laidTests := true, laidLooks := .later }
def FnExactReadPaperCardSaid : Prop := Claim7.holds Tryd.pinned (.plain (OpenSpec.ofChange fnExactReadPaperSpec)) fnExactReadPaperCard

/-- THE SECOND FORM's CARD OF 'laws.FnPapers'. -/
def fnPapersUptoCard : Claim7 := { stood := { row := fnPapersUptoRow, standIns := [], harness := (true, "5737686a068f0cbf6462cb42bf71d801f3cda481b9a6c96b8633056149e42c05"), looks := true }, kinds := [], alts := [], laidByText := true, laidKinds := [.data, .data, .data, .sentinel, .sentinel], laidTests := true, laidLooks := .later }
def FnPapersUptoCardSaid : Prop := Claim7.holds Tryd.pinned (.plain (OpenSpec.upto fnPapersSpec)) fnPapersUptoCard

/-- THE SECOND FORM's CARD OF 'laws.FnExactReadRoute'. -/
def fnExactReadRouteUptoCard : Claim7 := { stood := { row := fnExactReadRouteUptoRow, standIns := [], harness := (true, "5737686a068f0cbf6462cb42bf71d801f3cda481b9a6c96b8633056149e42c05"), looks := true }, kinds := [], alts := [], laidByText := true, laidKinds := [.data, .data, .data, .data, .sentinel, .sentinel, .pinned], laidTests := true, laidLooks := .later }
def FnExactReadRouteUptoCardSaid : Prop := Claim7.holds Tryd.pinned (.plain (OpenSpec.upto fnExactReadRouteSpec)) fnExactReadRouteUptoCard

/-- THE SECOND FORM's CARD OF 'laws.FnExactPaperText'. -/
def fnExactPaperTextUptoCard : Claim7 := { stood := { row := fnExactPaperTextUptoRow, standIns := [], harness := (true, "5737686a068f0cbf6462cb42bf71d801f3cda481b9a6c96b8633056149e42c05"), looks := true }, kinds := [], alts := [], laidByText := true, laidKinds := [.data, .data, .data], laidTests := true, laidLooks := .later }
def FnExactPaperTextUptoCardSaid : Prop := Claim7.holds Tryd.pinned (.plain (OpenSpec.upto fnExactPaperTextSpec)) fnExactPaperTextUptoCard

/-- THE SECOND FORM's CARD OF 'laws.FnExactReadPaper'. -/
def fnExactReadPaperUptoCard : Claim7 := { stood := { row := fnExactReadPaperUptoRow, standIns := [], harness := (true, "5737686a068f0cbf6462cb42bf71d801f3cda481b9a6c96b8633056149e42c05"), looks := true }, kinds := [], alts := [], laidByText := true, laidKinds := [.data, .data, .data, .sentinel, .sentinel], laidTests := true, laidLooks := .later }
def FnExactReadPaperUptoCardSaid : Prop := Claim7.holds Tryd.pinned (.plain (OpenSpec.upto fnExactReadPaperSpec)) fnExactReadPaperUptoCard
end Rows
end Go.Proofs.YtoloijfhmddibaaDoor
