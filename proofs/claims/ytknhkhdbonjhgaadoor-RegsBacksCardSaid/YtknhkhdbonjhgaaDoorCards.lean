/-
  DERIVED. GIVEN WITH THE SEED: THE CARDS: each row of YtknhkhdbonjhgaaDoorRows.lean that lists a variable, with what it lists TIED to the program's text (the seventh form; the later family's looks); each row that meets fmt, with fmt's text TOLD by the authors' own Lean function (tested against real Go, not proved from fmt's source: count such statements apart). THE CARD IS WHAT COUNTS. Prove the row's statement (the work); the ties are given (YtknhkhdbonjhgaaDoorTie.lean); close each card by the builder's one call (the guide's Derived/Test/ToyasCard.lean, 'card_holds'). Laid BY PROGRAM, IN A SANDBOX (cutbox-door.mjs). By AI agents, Wed Nov 11 2026. No macro, syntax, notation, axiom, sorry.
-/
import Derived.Test.YtknhkhdbonjhgaaDoorRows
import GoSem.ClaimSeven
namespace Go.Proofs.YtknhkhdbonjhgaaDoor
namespace Rows

/-- THE TIED CARD OF 'sheafworkslaw23.RegsAllocs'. -/
def regsAllocsCard : Claim7 := { stood := { row := regsAllocsRow, standIns := [], harness := (true, "168ab8e7f67d43304005f9eb622602b7a6af205c051abe541b21ac4f05ca28a5"), looks := false }, kinds := [], alts := [], laidByText := true, laidKinds := [.data, .data], laidTests := true, laidLooks := .later }
def RegsAllocsCardSaid : Prop := Claim7.holds Tryd.pinned (.plain (OpenSpec.ofChange regsAllocsSpec)) regsAllocsCard

/-- THE TIED CARD OF 'sheafworkslaw23.RegsBacks'. -/
def regsBacksCard : Claim7 := { stood := { row := regsBacksRow, standIns := [], harness := (true, "168ab8e7f67d43304005f9eb622602b7a6af205c051abe541b21ac4f05ca28a5"), looks := false }, kinds := [], alts := [], laidByText := true, laidKinds := [.data, .data], laidTests := true, laidLooks := .later }
def RegsBacksCardSaid : Prop := Claim7.holds Tryd.pinned (.plain (OpenSpec.ofChange regsBacksSpec)) regsBacksCard

/-- THE TIED CARD OF 'sheafworkslaw23.RegsFewest'. -/
def regsFewestCard : Claim7 := { stood := { row := regsFewestRow, standIns := [], harness := (true, "168ab8e7f67d43304005f9eb622602b7a6af205c051abe541b21ac4f05ca28a5"), looks := false }, kinds := [], alts := [], laidByText := true, laidKinds := [.data, .data], laidTests := true, laidLooks := .later }
def RegsFewestCardSaid : Prop := Claim7.holds Tryd.pinned (.plain (OpenSpec.ofChange regsFewestSpec)) regsFewestCard

/-- THE TIED CARD OF 'sheafworkslaw23.RegsMore'. -/
def regsMoreCard : Claim7 := { stood := { row := regsMoreRow, standIns := [], harness := (true, "168ab8e7f67d43304005f9eb622602b7a6af205c051abe541b21ac4f05ca28a5"), looks := false }, kinds := [], alts := [], laidByText := true, laidKinds := [.data, .data], laidTests := true, laidLooks := .later }
def RegsMoreCardSaid : Prop := Claim7.holds Tryd.pinned (.plain (OpenSpec.ofChange regsMoreSpec)) regsMoreCard

/-- THE TIED CARD OF 'sheafworkslaw23.RegsStored'. -/
def regsStoredCard : Claim7 := { stood := { row := regsStoredRow, standIns := [], harness := (true, "168ab8e7f67d43304005f9eb622602b7a6af205c051abe541b21ac4f05ca28a5"), looks := false }, kinds := [], alts := [], laidByText := true, laidKinds := [.data, .data], laidTests := true, laidLooks := .later }
def RegsStoredCardSaid : Prop := Claim7.holds Tryd.pinned (.plain (OpenSpec.ofChange regsStoredSpec)) regsStoredCard

/-- THE TIED CARD OF 'sheafworkslaw23.RegsLives'. -/
def regsLivesCard : Claim7 := { stood := { row := regsLivesRow, standIns := [], harness := (true, "168ab8e7f67d43304005f9eb622602b7a6af205c051abe541b21ac4f05ca28a5"), looks := false }, kinds := [], alts := [], laidByText := true, laidKinds := [.data, .data], laidTests := true, laidLooks := .later }
def RegsLivesCardSaid : Prop := Claim7.holds Tryd.pinned (.plain (OpenSpec.ofChange regsLivesSpec)) regsLivesCard

/-- THE TIED CARD OF 'sheafworkslaw23.RegsChecks'. -/
def regsChecksCard : Claim7 := { stood := { row := regsChecksRow, standIns := [], harness := (true, "168ab8e7f67d43304005f9eb622602b7a6af205c051abe541b21ac4f05ca28a5"), looks := false }, kinds := [], alts := [], laidByText := true, laidKinds := [.data, .data], laidTests := true, laidLooks := .later }
def RegsChecksCardSaid : Prop := Claim7.holds Tryd.pinned (.plain (OpenSpec.ofChange regsChecksSpec)) regsChecksCard

/-- THE TIED CARD OF 'sheafworkslaw23.RegsSame'. -/
def regsSameCard : Claim7 := { stood := { row := regsSameRow, standIns := [], harness := (true, "168ab8e7f67d43304005f9eb622602b7a6af205c051abe541b21ac4f05ca28a5"), looks := false }, kinds := [], alts := [], laidByText := true, laidKinds := [.data, .data], laidTests := true, laidLooks := .later }
def RegsSameCardSaid : Prop := Claim7.holds Tryd.pinned (.plain (OpenSpec.ofChange regsSameSpec)) regsSameCard

/-- THE TIED CARD OF 'sheafworkslaw23.RegsNames'. -/
def regsNamesCard : Claim7 := { stood := { row := regsNamesRow, standIns := [], harness := (true, "168ab8e7f67d43304005f9eb622602b7a6af205c051abe541b21ac4f05ca28a5"), looks := false }, kinds := [], alts := [], laidByText := true, laidKinds := [.data, .data], laidTests := true, laidLooks := .later }
def RegsNamesCardSaid : Prop := Claim7.holds Tryd.pinned (.plain (OpenSpec.ofChange regsNamesSpec)) regsNamesCard

/-- THE TIED CARD OF 'sheafworkslaw23.RegsKnown'. -/
def regsKnownCard : Claim7 := { stood := { row := regsKnownRow, standIns := [], harness := (true, "168ab8e7f67d43304005f9eb622602b7a6af205c051abe541b21ac4f05ca28a5"), looks := false }, kinds := [], alts := [], laidByText := true, laidKinds := [.data, .data], laidTests := true, laidLooks := .later }
def RegsKnownCardSaid : Prop := Claim7.holds Tryd.pinned (.plain (OpenSpec.ofChange regsKnownSpec)) regsKnownCard

/-- THE SECOND FORM's CARD OF 'sheafworkslaw23.RegsAllocs'. -/
def regsAllocsUptoCard : Claim7 := { stood := { row := regsAllocsUptoRow, standIns := [], harness := (true, "168ab8e7f67d43304005f9eb622602b7a6af205c051abe541b21ac4f05ca28a5"), looks := false }, kinds := [], alts := [], laidByText := true, laidKinds := [.data, .data], laidTests := true, laidLooks := .later }
def RegsAllocsUptoCardSaid : Prop := Claim7.holds Tryd.pinned (.plain (OpenSpec.upto regsAllocsSpec)) regsAllocsUptoCard

/-- THE SECOND FORM's CARD OF 'sheafworkslaw23.RegsBacks'. -/
def regsBacksUptoCard : Claim7 := { stood := { row := regsBacksUptoRow, standIns := [], harness := (true, "168ab8e7f67d43304005f9eb622602b7a6af205c051abe541b21ac4f05ca28a5"), looks := false }, kinds := [], alts := [], laidByText := true, laidKinds := [.data, .data], laidTests := true, laidLooks := .later }
def RegsBacksUptoCardSaid : Prop := Claim7.holds Tryd.pinned (.plain (OpenSpec.upto regsBacksSpec)) regsBacksUptoCard

/-- THE SECOND FORM's CARD OF 'sheafworkslaw23.RegsFewest'. -/
def regsFewestUptoCard : Claim7 := { stood := { row := regsFewestUptoRow, standIns := [], harness := (true, "168ab8e7f67d43304005f9eb622602b7a6af205c051abe541b21ac4f05ca28a5"), looks := false }, kinds := [], alts := [], laidByText := true, laidKinds := [.data, .data], laidTests := true, laidLooks := .later }
def RegsFewestUptoCardSaid : Prop := Claim7.holds Tryd.pinned (.plain (OpenSpec.upto regsFewestSpec)) regsFewestUptoCard

/-- THE SECOND FORM's CARD OF 'sheafworkslaw23.RegsMore'. -/
def regsMoreUptoCard : Claim7 := { stood := { row := regsMoreUptoRow, standIns := [], harness := (true, "168ab8e7f67d43304005f9eb622602b7a6af205c051abe541b21ac4f05ca28a5"), looks := false }, kinds := [], alts := [], laidByText := true, laidKinds := [.data, .data], laidTests := true, laidLooks := .later }
def RegsMoreUptoCardSaid : Prop := Claim7.holds Tryd.pinned (.plain (OpenSpec.upto regsMoreSpec)) regsMoreUptoCard

/-- THE SECOND FORM's CARD OF 'sheafworkslaw23.RegsStored'. -/
def regsStoredUptoCard : Claim7 := { stood := { row := regsStoredUptoRow, standIns := [], harness := (true, "168ab8e7f67d43304005f9eb622602b7a6af205c051abe541b21ac4f05ca28a5"), looks := false }, kinds := [], alts := [], laidByText := true, laidKinds := [.data, .data], laidTests := true, laidLooks := .later }
def RegsStoredUptoCardSaid : Prop := Claim7.holds Tryd.pinned (.plain (OpenSpec.upto regsStoredSpec)) regsStoredUptoCard

/-- THE SECOND FORM's CARD OF 'sheafworkslaw23.RegsLives'. -/
def regsLivesUptoCard : Claim7 := { stood := { row := regsLivesUptoRow, standIns := [], harness := (true, "168ab8e7f67d43304005f9eb622602b7a6af205c051abe541b21ac4f05ca28a5"), looks := false }, kinds := [], alts := [], laidByText := true, laidKinds := [.data, .data], laidTests := true, laidLooks := .later }
def RegsLivesUptoCardSaid : Prop := Claim7.holds Tryd.pinned (.plain (OpenSpec.upto regsLivesSpec)) regsLivesUptoCard

/-- THE SECOND FORM's CARD OF 'sheafworkslaw23.RegsChecks'. -/
def regsChecksUptoCard : Claim7 := { stood := { row := regsChecksUptoRow, standIns := [], harness := (true, "168ab8e7f67d43304005f9eb622602b7a6af205c051abe541b21ac4f05ca28a5"), looks := false }, kinds := [], alts := [], laidByText := true, laidKinds := [.data, .data], laidTests := true, laidLooks := .later }
def RegsChecksUptoCardSaid : Prop := Claim7.holds Tryd.pinned (.plain (OpenSpec.upto regsChecksSpec)) regsChecksUptoCard

/-- THE SECOND FORM's CARD OF 'sheafworkslaw23.RegsSame'. -/
def regsSameUptoCard : Claim7 := { stood := { row := regsSameUptoRow, standIns := [], harness := (true, "168ab8e7f67d43304005f9eb622602b7a6af205c051abe541b21ac4f05ca28a5"), looks := false }, kinds := [], alts := [], laidByText := true, laidKinds := [.data, .data], laidTests := true, laidLooks := .later }
def RegsSameUptoCardSaid : Prop := Claim7.holds Tryd.pinned (.plain (OpenSpec.upto regsSameSpec)) regsSameUptoCard

/-- THE SECOND FORM's CARD OF 'sheafworkslaw23.RegsNames'. -/
def regsNamesUptoCard : Claim7 := { stood := { row := regsNamesUptoRow, standIns := [], harness := (true, "168ab8e7f67d43304005f9eb622602b7a6af205c051abe541b21ac4f05ca28a5"), looks := false }, kinds := [], alts := [], laidByText := true, laidKinds := [.data, .data], laidTests := true, laidLooks := .later }
def RegsNamesUptoCardSaid : Prop := Claim7.holds Tryd.pinned (.plain (OpenSpec.upto regsNamesSpec)) regsNamesUptoCard

/-- THE SECOND FORM's CARD OF 'sheafworkslaw23.RegsKnown'. -/
def regsKnownUptoCard : Claim7 := { stood := { row := regsKnownUptoRow, standIns := [], harness := (true, "168ab8e7f67d43304005f9eb622602b7a6af205c051abe541b21ac4f05ca28a5"), looks := false }, kinds := [], alts := [], laidByText := true, laidKinds := [.data, .data], laidTests := true, laidLooks := .later }
def RegsKnownUptoCardSaid : Prop := Claim7.holds Tryd.pinned (.plain (OpenSpec.upto regsKnownSpec)) regsKnownUptoCard
end Rows
end Go.Proofs.YtknhkhdbonjhgaaDoor
