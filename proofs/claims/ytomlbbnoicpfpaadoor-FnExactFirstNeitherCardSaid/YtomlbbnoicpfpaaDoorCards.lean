/-
  DERIVED. GIVEN WITH THE SEED: THE CARDS: each row of YtomlbbnoicpfpaaDoorRows.lean that lists a variable, with what it lists TIED to the program's text (the seventh form; the later family's looks); each row that meets fmt, with fmt's text TOLD by the authors' own Lean function (tested against real Go, not proved from fmt's source: count such statements apart). THE CARD IS WHAT COUNTS. Prove the row's statement (the work); the ties are given (YtomlbbnoicpfpaaDoorTie.lean); close each card by the builder's one call (the guide's Derived/Test/ToyasCard.lean, 'card_holds'). Laid BY PROGRAM, IN A SANDBOX (cutbox-door.mjs). By AI agents, Wed Nov 11 2026. No macro, syntax, notation, axiom, sorry.
-/
import Derived.Test.YtomlbbnoicpfpaaDoorRows
import GoSem.ClaimSeven
namespace Go.Proofs.YtomlbbnoicpfpaaDoor
namespace Rows

/-- THE TIED CARD OF 'laws.FnExactHasNeither'. -/
def fnExactHasNeitherCard : Claim7 := { stood := { row := fnExactHasNeitherRow, standIns := [], harness := (true, "edb51f5c944e48ee78fd0fdb5a901c84775039d7371058a467c4bd271ecf5732"), looks := false }, kinds := [], alts := [], laidByText := true, laidKinds := [.data], laidTests := true, laidLooks := .later }
def FnExactHasNeitherCardSaid : Prop := Claim7.holds Tryd.pinned (.plain (OpenSpec.ofChange fnExactHasNeitherSpec)) fnExactHasNeitherCard

/-- THE TIED CARD OF 'laws.FnExactLacksGroup'. -/
def fnExactLacksGroupCard : Claim7 := { stood := { row := fnExactLacksGroupRow, standIns := [], harness := (true, "edb51f5c944e48ee78fd0fdb5a901c84775039d7371058a467c4bd271ecf5732"), looks := false }, kinds := [], alts := [], laidByText := true, laidKinds := [.data], laidTests := true, laidLooks := .later }
def FnExactLacksGroupCardSaid : Prop := Claim7.holds Tryd.pinned (.plain (OpenSpec.ofChange fnExactLacksGroupSpec)) fnExactLacksGroupCard

/-- THE TIED CARD OF 'laws.FnExactCountNeither'. -/
def fnExactCountNeitherCard : Claim7 := { stood := { row := fnExactCountNeitherRow, standIns := [], harness := (true, "edb51f5c944e48ee78fd0fdb5a901c84775039d7371058a467c4bd271ecf5732"), looks := false }, kinds := [], alts := [], laidByText := true, laidKinds := [.data], laidTests := true, laidLooks := .later }
def FnExactCountNeitherCardSaid : Prop := Claim7.holds Tryd.pinned (.plain (OpenSpec.ofChange fnExactCountNeitherSpec)) fnExactCountNeitherCard

/-- THE TIED CARD OF 'laws.FnExactFirstNeither'. -/
def fnExactFirstNeitherCard : Claim7 := { stood := { row := fnExactFirstNeitherRow, standIns := [], harness := (true, "edb51f5c944e48ee78fd0fdb5a901c84775039d7371058a467c4bd271ecf5732"), looks := false }, kinds := [], alts := [], laidByText := true, laidKinds := [.data], laidTests := true, laidLooks := .later }
def FnExactFirstNeitherCardSaid : Prop := Claim7.holds Tryd.pinned (.plain (OpenSpec.ofChange fnExactFirstNeitherSpec)) fnExactFirstNeitherCard

/-- THE TIED CARD OF 'laws.FnExactAllGroups'. -/
def fnExactAllGroupsCard : Claim7 := { stood := { row := fnExactAllGroupsRow, standIns := [], harness := (true, "edb51f5c944e48ee78fd0fdb5a901c84775039d7371058a467c4bd271ecf5732"), looks := false }, kinds := [], alts := [], laidByText := true, laidKinds := [.data], laidTests := true, laidLooks := .later }
def FnExactAllGroupsCardSaid : Prop := Claim7.holds Tryd.pinned (.plain (OpenSpec.ofChange fnExactAllGroupsSpec)) fnExactAllGroupsCard

/-- THE TIED CARD OF 'laws.FnExactDoesFit'. -/
def fnExactDoesFitCard : Claim7 := { stood := { row := fnExactDoesFitRow, standIns := [], harness := (true, "edb51f5c944e48ee78fd0fdb5a901c84775039d7371058a467c4bd271ecf5732"), looks := false }, kinds := [], alts := [], laidByText := true, laidKinds := [.data], laidTests := true, laidLooks := .later }
def FnExactDoesFitCardSaid : Prop := Claim7.holds Tryd.pinned (.plain (OpenSpec.ofChange fnExactDoesFitSpec)) fnExactDoesFitCard

/-- THE TIED CARD OF 'laws.FnExactFirstPairing'. -/
def fnExactFirstPairingCard : Claim7 := { stood := { row := fnExactFirstPairingRow, standIns := [], harness := (true, "edb51f5c944e48ee78fd0fdb5a901c84775039d7371058a467c4bd271ecf5732"), looks := false }, kinds := [], alts := [], laidByText := true, laidKinds := [.data], laidTests := true, laidLooks := .later }
def FnExactFirstPairingCardSaid : Prop := Claim7.holds Tryd.pinned (.plain (OpenSpec.ofChange fnExactFirstPairingSpec)) fnExactFirstPairingCard

/-- THE TIED CARD OF 'laws.FnExactPuzzleText'. -/
def fnExactPuzzleTextCard : Claim7 := { stood := { row := fnExactPuzzleTextRow, standIns := [], harness := (true, "edb51f5c944e48ee78fd0fdb5a901c84775039d7371058a467c4bd271ecf5732"), looks := false }, kinds := [], alts := [], laidByText := true, laidKinds := [.data, .data, .data], laidTests := true, laidLooks := .later }
def FnExactPuzzleTextCardSaid : Prop := Claim7.holds Tryd.pinned (.plain (OpenSpec.ofChange fnExactPuzzleTextSpec)) fnExactPuzzleTextCard

/-- THE SECOND FORM's CARD OF 'laws.FnExactHasNeither'. -/
def fnExactHasNeitherUptoCard : Claim7 := { stood := { row := fnExactHasNeitherUptoRow, standIns := [], harness := (true, "edb51f5c944e48ee78fd0fdb5a901c84775039d7371058a467c4bd271ecf5732"), looks := false }, kinds := [], alts := [], laidByText := true, laidKinds := [.data], laidTests := true, laidLooks := .later }
def FnExactHasNeitherUptoCardSaid : Prop := Claim7.holds Tryd.pinned (.plain (OpenSpec.upto fnExactHasNeitherSpec)) fnExactHasNeitherUptoCard

/-- THE SECOND FORM's CARD OF 'laws.FnExactLacksGroup'. -/
def fnExactLacksGroupUptoCard : Claim7 := { stood := { row := fnExactLacksGroupUptoRow, standIns := [], harness := (true, "edb51f5c944e48ee78fd0fdb5a901c84775039d7371058a467c4bd271ecf5732"), looks := false }, kinds := [], alts := [], laidByText := true, laidKinds := [.data], laidTests := true, laidLooks := .later }
def FnExactLacksGroupUptoCardSaid : Prop := Claim7.holds Tryd.pinned (.plain (OpenSpec.upto fnExactLacksGroupSpec)) fnExactLacksGroupUptoCard

/-- THE SECOND FORM's CARD OF 'laws.FnExactCountNeither'. -/
def fnExactCountNeitherUptoCard : Claim7 := { stood := { row := fnExactCountNeitherUptoRow, standIns := [], harness := (true, "edb51f5c944e48ee78fd0fdb5a901c84775039d7371058a467c4bd271ecf5732"), looks := false }, kinds := [], alts := [], laidByText := true, laidKinds := [.data], laidTests := true, laidLooks := .later }
def FnExactCountNeitherUptoCardSaid : Prop := Claim7.holds Tryd.pinned (.plain (OpenSpec.upto fnExactCountNeitherSpec)) fnExactCountNeitherUptoCard

/-- THE SECOND FORM's CARD OF 'laws.FnExactFirstNeither'. -/
def fnExactFirstNeitherUptoCard : Claim7 := { stood := { row := fnExactFirstNeitherUptoRow, standIns := [], harness := (true, "edb51f5c944e48ee78fd0fdb5a901c84775039d7371058a467c4bd271ecf5732"), looks := false }, kinds := [], alts := [], laidByText := true, laidKinds := [.data], laidTests := true, laidLooks := .later }
def FnExactFirstNeitherUptoCardSaid : Prop := Claim7.holds Tryd.pinned (.plain (OpenSpec.upto fnExactFirstNeitherSpec)) fnExactFirstNeitherUptoCard

/-- THE SECOND FORM's CARD OF 'laws.FnExactAllGroups'. -/
def fnExactAllGroupsUptoCard : Claim7 := { stood := { row := fnExactAllGroupsUptoRow, standIns := [], harness := (true, "edb51f5c944e48ee78fd0fdb5a901c84775039d7371058a467c4bd271ecf5732"), looks := false }, kinds := [], alts := [], laidByText := true, laidKinds := [.data], laidTests := true, laidLooks := .later }
def FnExactAllGroupsUptoCardSaid : Prop := Claim7.holds Tryd.pinned (.plain (OpenSpec.upto fnExactAllGroupsSpec)) fnExactAllGroupsUptoCard

/-- THE SECOND FORM's CARD OF 'laws.FnExactDoesFit'. -/
def fnExactDoesFitUptoCard : Claim7 := { stood := { row := fnExactDoesFitUptoRow, standIns := [], harness := (true, "edb51f5c944e48ee78fd0fdb5a901c84775039d7371058a467c4bd271ecf5732"), looks := false }, kinds := [], alts := [], laidByText := true, laidKinds := [.data], laidTests := true, laidLooks := .later }
def FnExactDoesFitUptoCardSaid : Prop := Claim7.holds Tryd.pinned (.plain (OpenSpec.upto fnExactDoesFitSpec)) fnExactDoesFitUptoCard

/-- THE SECOND FORM's CARD OF 'laws.FnExactFirstPairing'. -/
def fnExactFirstPairingUptoCard : Claim7 := { stood := { row := fnExactFirstPairingUptoRow, standIns := [], harness := (true, "edb51f5c944e48ee78fd0fdb5a901c84775039d7371058a467c4bd271ecf5732"), looks := false }, kinds := [], alts := [], laidByText := true, laidKinds := [.data], laidTests := true, laidLooks := .later }
def FnExactFirstPairingUptoCardSaid : Prop := Claim7.holds Tryd.pinned (.plain (OpenSpec.upto fnExactFirstPairingSpec)) fnExactFirstPairingUptoCard

/-- THE SECOND FORM's CARD OF 'laws.FnExactPuzzleText'. -/
def fnExactPuzzleTextUptoCard : Claim7 := { stood := { row := fnExactPuzzleTextUptoRow, standIns := [], harness := (true, "edb51f5c944e48ee78fd0fdb5a901c84775039d7371058a467c4bd271ecf5732"), looks := false }, kinds := [], alts := [], laidByText := true, laidKinds := [.data, .data, .data], laidTests := true, laidLooks := .later }
def FnExactPuzzleTextUptoCardSaid : Prop := Claim7.holds Tryd.pinned (.plain (OpenSpec.upto fnExactPuzzleTextSpec)) fnExactPuzzleTextUptoCard
end Rows
end Go.Proofs.YtomlbbnoicpfpaaDoor
