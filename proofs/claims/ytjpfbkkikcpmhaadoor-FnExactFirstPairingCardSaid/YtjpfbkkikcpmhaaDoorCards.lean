/-
  DERIVED. GIVEN WITH THE SEED: THE CARDS: each row of YtjpfbkkikcpmhaaDoorRows.lean that lists a variable, with what it lists TIED to the program's text (the seventh form; the later family's looks); each row that meets fmt, with fmt's text TOLD by the authors' own Lean function (tested against real Go, not proved from fmt's source: count such statements apart). THE CARD IS WHAT COUNTS. Prove the row's statement (the work); the ties are given (YtjpfbkkikcpmhaaDoorTie.lean); close each card by the builder's one call (the guide's Derived/Test/ToyasCard.lean, 'card_holds'). Laid BY PROGRAM, IN A SANDBOX (cutbox-door.mjs). By AI agents, Wed Nov 11 2026. No macro, syntax, notation, axiom, sorry.
-/
import Derived.Test.YtjpfbkkikcpmhaaDoorRows
import GoSem.ClaimSeven
namespace Go.Proofs.YtjpfbkkikcpmhaaDoor
namespace Rows

/-- THE TIED CARD OF 'laws.FnExactMakePuzzle'. -/
def fnExactMakePuzzleCard : Claim7 := { stood := { row := fnExactMakePuzzleRow, standIns := [], harness := (true, "c628ca533902beece43ee2dbb52e0aec2a3759c0678f2fd5460b37142c2c901f"), looks := false }, kinds := [], alts := [], laidByText := true, laidKinds := [.data], laidTests := true, laidLooks := .later }
def FnExactMakePuzzleCardSaid : Prop := Claim7.holds Tryd.pinned (.plain (OpenSpec.ofChange fnExactMakePuzzleSpec)) fnExactMakePuzzleCard

/-- THE TIED CARD OF 'laws.FnExactSolutions'. -/
def fnExactSolutionsCard : Claim7 := { stood := { row := fnExactSolutionsRow, standIns := [], harness := (true, "c628ca533902beece43ee2dbb52e0aec2a3759c0678f2fd5460b37142c2c901f"), looks := false }, kinds := [], alts := [], laidByText := true, laidKinds := [.data], laidTests := true, laidLooks := .later }
def FnExactSolutionsCardSaid : Prop := Claim7.holds Tryd.pinned (.plain (OpenSpec.ofChange fnExactSolutionsSpec)) fnExactSolutionsCard

/-- THE TIED CARD OF 'laws.FnExactCountPairings'. -/
def fnExactCountPairingsCard : Claim7 := { stood := { row := fnExactCountPairingsRow, standIns := [], harness := (true, "c628ca533902beece43ee2dbb52e0aec2a3759c0678f2fd5460b37142c2c901f"), looks := false }, kinds := [], alts := [], laidByText := true, laidKinds := [.data], laidTests := true, laidLooks := .later }
def FnExactCountPairingsCardSaid : Prop := Claim7.holds Tryd.pinned (.plain (OpenSpec.ofChange fnExactCountPairingsSpec)) fnExactCountPairingsCard

/-- THE TIED CARD OF 'laws.FnExactCountRows'. -/
def fnExactCountRowsCard : Claim7 := { stood := { row := fnExactCountRowsRow, standIns := [], harness := (true, "c628ca533902beece43ee2dbb52e0aec2a3759c0678f2fd5460b37142c2c901f"), looks := false }, kinds := [], alts := [], laidByText := true, laidKinds := [.data], laidTests := true, laidLooks := .later }
def FnExactCountRowsCardSaid : Prop := Claim7.holds Tryd.pinned (.plain (OpenSpec.ofChange fnExactCountRowsSpec)) fnExactCountRowsCard

/-- THE TIED CARD OF 'laws.FnExactFirstPairing'. -/
def fnExactFirstPairingCard : Claim7 := { stood := { row := fnExactFirstPairingRow, standIns := [], harness := (true, "c628ca533902beece43ee2dbb52e0aec2a3759c0678f2fd5460b37142c2c901f"), looks := false }, kinds := [], alts := [], laidByText := true, laidKinds := [.data], laidTests := true, laidLooks := .later }
def FnExactFirstPairingCardSaid : Prop := Claim7.holds Tryd.pinned (.plain (OpenSpec.ofChange fnExactFirstPairingSpec)) fnExactFirstPairingCard

/-- THE TIED CARD OF 'laws.FnExactMostInPairs'. -/
def fnExactMostInPairsCard : Claim7 := { stood := { row := fnExactMostInPairsRow, standIns := [], harness := (true, "c628ca533902beece43ee2dbb52e0aec2a3759c0678f2fd5460b37142c2c901f"), looks := false }, kinds := [], alts := [], laidByText := true, laidKinds := [.data], laidTests := true, laidLooks := .later }
def FnExactMostInPairsCardSaid : Prop := Claim7.holds Tryd.pinned (.plain (OpenSpec.ofChange fnExactMostInPairsSpec)) fnExactMostInPairsCard

/-- THE TIED CARD OF 'laws.FnExactAllGroups'. -/
def fnExactAllGroupsCard : Claim7 := { stood := { row := fnExactAllGroupsRow, standIns := [], harness := (true, "c628ca533902beece43ee2dbb52e0aec2a3759c0678f2fd5460b37142c2c901f"), looks := false }, kinds := [], alts := [], laidByText := true, laidKinds := [.data], laidTests := true, laidLooks := .later }
def FnExactAllGroupsCardSaid : Prop := Claim7.holds Tryd.pinned (.plain (OpenSpec.ofChange fnExactAllGroupsSpec)) fnExactAllGroupsCard

/-- THE TIED CARD OF 'laws.FnExactAllApart'. -/
def fnExactAllApartCard : Claim7 := { stood := { row := fnExactAllApartRow, standIns := [], harness := (true, "c628ca533902beece43ee2dbb52e0aec2a3759c0678f2fd5460b37142c2c901f"), looks := false }, kinds := [], alts := [], laidByText := true, laidKinds := [.data], laidTests := true, laidLooks := .later }
def FnExactAllApartCardSaid : Prop := Claim7.holds Tryd.pinned (.plain (OpenSpec.ofChange fnExactAllApartSpec)) fnExactAllApartCard

/-- THE TIED CARD OF 'laws.FnExactPuzzleText'. -/
def fnExactPuzzleTextCard : Claim7 := { stood := { row := fnExactPuzzleTextRow, standIns := [], harness := (true, "c628ca533902beece43ee2dbb52e0aec2a3759c0678f2fd5460b37142c2c901f"), looks := false }, kinds := [], alts := [], laidByText := true, laidKinds := [.data, .data, .data], laidTests := true, laidLooks := .later }
def FnExactPuzzleTextCardSaid : Prop := Claim7.holds Tryd.pinned (.plain (OpenSpec.ofChange fnExactPuzzleTextSpec)) fnExactPuzzleTextCard

/-- THE SECOND FORM's CARD OF 'laws.FnExactMakePuzzle'. -/
def fnExactMakePuzzleUptoCard : Claim7 := { stood := { row := fnExactMakePuzzleUptoRow, standIns := [], harness := (true, "c628ca533902beece43ee2dbb52e0aec2a3759c0678f2fd5460b37142c2c901f"), looks := false }, kinds := [], alts := [], laidByText := true, laidKinds := [.data], laidTests := true, laidLooks := .later }
def FnExactMakePuzzleUptoCardSaid : Prop := Claim7.holds Tryd.pinned (.plain (OpenSpec.upto fnExactMakePuzzleSpec)) fnExactMakePuzzleUptoCard

/-- THE SECOND FORM's CARD OF 'laws.FnExactSolutions'. -/
def fnExactSolutionsUptoCard : Claim7 := { stood := { row := fnExactSolutionsUptoRow, standIns := [], harness := (true, "c628ca533902beece43ee2dbb52e0aec2a3759c0678f2fd5460b37142c2c901f"), looks := false }, kinds := [], alts := [], laidByText := true, laidKinds := [.data], laidTests := true, laidLooks := .later }
def FnExactSolutionsUptoCardSaid : Prop := Claim7.holds Tryd.pinned (.plain (OpenSpec.upto fnExactSolutionsSpec)) fnExactSolutionsUptoCard

/-- THE SECOND FORM's CARD OF 'laws.FnExactCountPairings'. -/
def fnExactCountPairingsUptoCard : Claim7 := { stood := { row := fnExactCountPairingsUptoRow, standIns := [], harness := (true, "c628ca533902beece43ee2dbb52e0aec2a3759c0678f2fd5460b37142c2c901f"), looks := false }, kinds := [], alts := [], laidByText := true, laidKinds := [.data], laidTests := true, laidLooks := .later }
def FnExactCountPairingsUptoCardSaid : Prop := Claim7.holds Tryd.pinned (.plain (OpenSpec.upto fnExactCountPairingsSpec)) fnExactCountPairingsUptoCard

/-- THE SECOND FORM's CARD OF 'laws.FnExactCountRows'. -/
def fnExactCountRowsUptoCard : Claim7 := { stood := { row := fnExactCountRowsUptoRow, standIns := [], harness := (true, "c628ca533902beece43ee2dbb52e0aec2a3759c0678f2fd5460b37142c2c901f"), looks := false }, kinds := [], alts := [], laidByText := true, laidKinds := [.data], laidTests := true, laidLooks := .later }
def FnExactCountRowsUptoCardSaid : Prop := Claim7.holds Tryd.pinned (.plain (OpenSpec.upto fnExactCountRowsSpec)) fnExactCountRowsUptoCard

/-- THE SECOND FORM's CARD OF 'laws.FnExactFirstPairing'. -/
def fnExactFirstPairingUptoCard : Claim7 := { stood := { row := fnExactFirstPairingUptoRow, standIns := [], harness := (true, "c628ca533902beece43ee2dbb52e0aec2a3759c0678f2fd5460b37142c2c901f"), looks := false }, kinds := [], alts := [], laidByText := true, laidKinds := [.data], laidTests := true, laidLooks := .later }
def FnExactFirstPairingUptoCardSaid : Prop := Claim7.holds Tryd.pinned (.plain (OpenSpec.upto fnExactFirstPairingSpec)) fnExactFirstPairingUptoCard

/-- THE SECOND FORM's CARD OF 'laws.FnExactMostInPairs'. -/
def fnExactMostInPairsUptoCard : Claim7 := { stood := { row := fnExactMostInPairsUptoRow, standIns := [], harness := (true, "c628ca533902beece43ee2dbb52e0aec2a3759c0678f2fd5460b37142c2c901f"), looks := false }, kinds := [], alts := [], laidByText := true, laidKinds := [.data], laidTests := true, laidLooks := .later }
def FnExactMostInPairsUptoCardSaid : Prop := Claim7.holds Tryd.pinned (.plain (OpenSpec.upto fnExactMostInPairsSpec)) fnExactMostInPairsUptoCard

/-- THE SECOND FORM's CARD OF 'laws.FnExactAllGroups'. -/
def fnExactAllGroupsUptoCard : Claim7 := { stood := { row := fnExactAllGroupsUptoRow, standIns := [], harness := (true, "c628ca533902beece43ee2dbb52e0aec2a3759c0678f2fd5460b37142c2c901f"), looks := false }, kinds := [], alts := [], laidByText := true, laidKinds := [.data], laidTests := true, laidLooks := .later }
def FnExactAllGroupsUptoCardSaid : Prop := Claim7.holds Tryd.pinned (.plain (OpenSpec.upto fnExactAllGroupsSpec)) fnExactAllGroupsUptoCard

/-- THE SECOND FORM's CARD OF 'laws.FnExactAllApart'. -/
def fnExactAllApartUptoCard : Claim7 := { stood := { row := fnExactAllApartUptoRow, standIns := [], harness := (true, "c628ca533902beece43ee2dbb52e0aec2a3759c0678f2fd5460b37142c2c901f"), looks := false }, kinds := [], alts := [], laidByText := true, laidKinds := [.data], laidTests := true, laidLooks := .later }
def FnExactAllApartUptoCardSaid : Prop := Claim7.holds Tryd.pinned (.plain (OpenSpec.upto fnExactAllApartSpec)) fnExactAllApartUptoCard

/-- THE SECOND FORM's CARD OF 'laws.FnExactPuzzleText'. -/
def fnExactPuzzleTextUptoCard : Claim7 := { stood := { row := fnExactPuzzleTextUptoRow, standIns := [], harness := (true, "c628ca533902beece43ee2dbb52e0aec2a3759c0678f2fd5460b37142c2c901f"), looks := false }, kinds := [], alts := [], laidByText := true, laidKinds := [.data, .data, .data], laidTests := true, laidLooks := .later }
def FnExactPuzzleTextUptoCardSaid : Prop := Claim7.holds Tryd.pinned (.plain (OpenSpec.upto fnExactPuzzleTextSpec)) fnExactPuzzleTextUptoCard
end Rows
end Go.Proofs.YtjpfbkkikcpmhaaDoor
