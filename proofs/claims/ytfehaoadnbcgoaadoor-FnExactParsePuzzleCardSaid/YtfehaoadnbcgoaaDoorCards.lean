/-
  DERIVED. GIVEN WITH THE SEED: THE CARDS: each row of YtfehaoadnbcgoaaDoorRows.lean that lists a variable, with what it lists TIED to the program's text (the seventh form; the later family's looks); each row that meets fmt, with fmt's text TOLD by the authors' own Lean function (tested against real Go, not proved from fmt's source: count such statements apart). THE CARD IS WHAT COUNTS. Prove the row's statement (the work); the ties are given (YtfehaoadnbcgoaaDoorTie.lean); close each card by the builder's one call (the guide's Derived/Test/ToyasCard.lean, 'card_holds'). Laid BY PROGRAM, IN A SANDBOX (cutbox-door.mjs). By AI agents, Wed Nov 11 2026. No macro, syntax, notation, axiom, sorry.
-/
import Derived.Test.YtfehaoadnbcgoaaDoorRows
import GoSem.ClaimSeven
namespace Go.Proofs.YtfehaoadnbcgoaaDoor
namespace Rows

/-- THE TIED CARD OF 'laws.FnPartsLackGroups'. -/
def fnPartsLackGroupsCard : Claim7 := { stood := { row := fnPartsLackGroupsRow, standIns := [], harness := (true, "f439210d6c880197e20e5ff6ad260bf53591f433052e72f89fb0f2de17428867"), looks := true }, kinds := [], alts := [], laidByText := true, laidKinds := [.data], laidTests := true, laidLooks := .later }
def FnPartsLackGroupsCardSaid : Prop := Claim7.holds Tryd.pinned (.plain (OpenSpec.ofChange fnPartsLackGroupsSpec)) fnPartsLackGroupsCard

/-- THE TIED CARD OF 'laws.FnExactFirstDesk'. -/
def fnExactFirstDeskCard : Claim7 := { stood := { row := fnExactFirstDeskRow, standIns := [], harness := (true, "f439210d6c880197e20e5ff6ad260bf53591f433052e72f89fb0f2de17428867"), looks := true }, kinds := [], alts := [], laidByText := true, laidKinds := [.data, .data, .data, .sentinel, .sentinel], laidTests := true, laidLooks := .later }
def FnExactFirstDeskCardSaid : Prop := Claim7.holds Tryd.pinned (.plain (OpenSpec.ofChange fnExactFirstDeskSpec)) fnExactFirstDeskCard

/-- THE TIED CARD OF 'laws.FnExactParsePuzzle'. -/
def fnExactParsePuzzleCard : Claim7 := { stood := { row := fnExactParsePuzzleRow, standIns := [], harness := (true, "f439210d6c880197e20e5ff6ad260bf53591f433052e72f89fb0f2de17428867"), looks := true }, kinds := [], alts := [], laidByText := true, laidKinds := [.data, .data, .data, .sentinel, .sentinel], laidTests := true, laidLooks := .later }
def FnExactParsePuzzleCardSaid : Prop := Claim7.holds Tryd.pinned (.plain (OpenSpec.ofChange fnExactParsePuzzleSpec)) fnExactParsePuzzleCard

/-- THE SECOND FORM's CARD OF 'laws.FnPartsLackGroups'. -/
def fnPartsLackGroupsUptoCard : Claim7 := { stood := { row := fnPartsLackGroupsUptoRow, standIns := [], harness := (true, "f439210d6c880197e20e5ff6ad260bf53591f433052e72f89fb0f2de17428867"), looks := true }, kinds := [], alts := [], laidByText := true, laidKinds := [.data], laidTests := true, laidLooks := .later }
def FnPartsLackGroupsUptoCardSaid : Prop := Claim7.holds Tryd.pinned (.plain (OpenSpec.upto fnPartsLackGroupsSpec)) fnPartsLackGroupsUptoCard

/-- THE SECOND FORM's CARD OF 'laws.FnExactFirstDesk'. -/
def fnExactFirstDeskUptoCard : Claim7 := { stood := { row := fnExactFirstDeskUptoRow, standIns := [], harness := (true, "f439210d6c880197e20e5ff6ad260bf53591f433052e72f89fb0f2de17428867"), looks := true }, kinds := [], alts := [], laidByText := true, laidKinds := [.data, .data, .data, .sentinel, .sentinel], laidTests := true, laidLooks := .later }
def FnExactFirstDeskUptoCardSaid : Prop := Claim7.holds Tryd.pinned (.plain (OpenSpec.upto fnExactFirstDeskSpec)) fnExactFirstDeskUptoCard

/-- THE SECOND FORM's CARD OF 'laws.FnExactParsePuzzle'. -/
def fnExactParsePuzzleUptoCard : Claim7 := { stood := { row := fnExactParsePuzzleUptoRow, standIns := [], harness := (true, "f439210d6c880197e20e5ff6ad260bf53591f433052e72f89fb0f2de17428867"), looks := true }, kinds := [], alts := [], laidByText := true, laidKinds := [.data, .data, .data, .sentinel, .sentinel], laidTests := true, laidLooks := .later }
def FnExactParsePuzzleUptoCardSaid : Prop := Claim7.holds Tryd.pinned (.plain (OpenSpec.upto fnExactParsePuzzleSpec)) fnExactParsePuzzleUptoCard
end Rows
end Go.Proofs.YtfehaoadnbcgoaaDoor
