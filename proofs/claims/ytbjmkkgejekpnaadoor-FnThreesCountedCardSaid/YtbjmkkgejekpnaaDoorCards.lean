/-
  DERIVED. GIVEN WITH THE SEED: THE CARDS: each row of YtbjmkkgejekpnaaDoorRows.lean that lists a variable, with what it lists TIED to the program's text (the seventh form; the later family's looks); each row that meets fmt, with fmt's text TOLD by the authors' own Lean function (tested against real Go, not proved from fmt's source: count such statements apart). THE CARD IS WHAT COUNTS. Prove the row's statement (the work); the ties are given (YtbjmkkgejekpnaaDoorTie.lean); close each card by the builder's one call (the guide's Derived/Test/ToyasCard.lean, 'card_holds'). Laid BY PROGRAM, IN A SANDBOX (cutbox-door.mjs). By AI agents, Wed Nov 11 2026. No macro, syntax, notation, axiom, sorry.
-/
import Derived.Test.YtbjmkkgejekpnaaDoorRows
import GoSem.ClaimSeven
namespace Go.Proofs.YtbjmkkgejekpnaaDoor
namespace Rows

/-- THE TIED CARD OF 'laws.FnGossipSpreads'. -/
def fnGossipSpreadsCard : Claim7 := { stood := { row := fnGossipSpreadsRow, standIns := [], harness := (true, "1dead0ddbca5b6921069f44e61ae076639887d60258386ac9285484aa2fd8bad"), looks := false }, kinds := [], alts := [], laidByText := true, laidKinds := [.data], laidTests := true, laidLooks := .later }
def FnGossipSpreadsCardSaid : Prop := Claim7.holds Tryd.pinned (.plain (OpenSpec.ofChange fnGossipSpreadsSpec)) fnGossipSpreadsCard

/-- THE TIED CARD OF 'laws.FnThreesCounted'. -/
def fnThreesCountedCard : Claim7 := { stood := { row := fnThreesCountedRow, standIns := [], harness := (true, "1dead0ddbca5b6921069f44e61ae076639887d60258386ac9285484aa2fd8bad"), looks := false }, kinds := [], alts := [], laidByText := true, laidKinds := [.data], laidTests := true, laidLooks := .later }
def FnThreesCountedCardSaid : Prop := Claim7.holds Tryd.pinned (.plain (OpenSpec.ofChange fnThreesCountedSpec)) fnThreesCountedCard

/-- THE TIED CARD OF 'laws.FnPeoplePaired'. -/
def fnPeoplePairedCard : Claim7 := { stood := { row := fnPeoplePairedRow, standIns := [], harness := (true, "1dead0ddbca5b6921069f44e61ae076639887d60258386ac9285484aa2fd8bad"), looks := false }, kinds := [], alts := [], laidByText := true, laidKinds := [.data], laidTests := true, laidLooks := .later }
def FnPeoplePairedCardSaid : Prop := Claim7.holds Tryd.pinned (.plain (OpenSpec.ofChange fnPeoplePairedSpec)) fnPeoplePairedCard

/-- THE SECOND FORM's CARD OF 'laws.FnGossipSpreads'. -/
def fnGossipSpreadsUptoCard : Claim7 := { stood := { row := fnGossipSpreadsUptoRow, standIns := [], harness := (true, "1dead0ddbca5b6921069f44e61ae076639887d60258386ac9285484aa2fd8bad"), looks := false }, kinds := [], alts := [], laidByText := true, laidKinds := [.data], laidTests := true, laidLooks := .later }
def FnGossipSpreadsUptoCardSaid : Prop := Claim7.holds Tryd.pinned (.plain (OpenSpec.upto fnGossipSpreadsSpec)) fnGossipSpreadsUptoCard

/-- THE SECOND FORM's CARD OF 'laws.FnThreesCounted'. -/
def fnThreesCountedUptoCard : Claim7 := { stood := { row := fnThreesCountedUptoRow, standIns := [], harness := (true, "1dead0ddbca5b6921069f44e61ae076639887d60258386ac9285484aa2fd8bad"), looks := false }, kinds := [], alts := [], laidByText := true, laidKinds := [.data], laidTests := true, laidLooks := .later }
def FnThreesCountedUptoCardSaid : Prop := Claim7.holds Tryd.pinned (.plain (OpenSpec.upto fnThreesCountedSpec)) fnThreesCountedUptoCard

/-- THE SECOND FORM's CARD OF 'laws.FnPeoplePaired'. -/
def fnPeoplePairedUptoCard : Claim7 := { stood := { row := fnPeoplePairedUptoRow, standIns := [], harness := (true, "1dead0ddbca5b6921069f44e61ae076639887d60258386ac9285484aa2fd8bad"), looks := false }, kinds := [], alts := [], laidByText := true, laidKinds := [.data], laidTests := true, laidLooks := .later }
def FnPeoplePairedUptoCardSaid : Prop := Claim7.holds Tryd.pinned (.plain (OpenSpec.upto fnPeoplePairedSpec)) fnPeoplePairedUptoCard
end Rows
end Go.Proofs.YtbjmkkgejekpnaaDoor
