/-
  DERIVED. GIVEN WITH THE SEED: THE CARDS: each row of YtcgjnkdcfpegiaaDoorRows.lean that lists a variable, with what it lists TIED to the program's text (the seventh form; the later family's looks); each row that meets fmt, with fmt's text TOLD by the authors' own Lean function (tested against real Go, not proved from fmt's source: count such statements apart). THE CARD IS WHAT COUNTS. Prove the row's statement (the work); the ties are given (YtcgjnkdcfpegiaaDoorTie.lean); close each card by the builder's one call (the guide's Derived/Test/ToyasCard.lean, 'card_holds'). Laid BY PROGRAM, IN A SANDBOX (cutbox-door.mjs). By AI agents, Wed Nov 11 2026. No macro, syntax, notation, axiom, sorry.
-/
import Derived.Test.YtcgjnkdcfpegiaaDoorRows
import GoSem.ClaimSeven
namespace Go.Proofs.YtcgjnkdcfpegiaaDoor
namespace Rows

/-- THE TIED CARD OF 'sheafworkslaw06.RopeTells'. -/
def ropeTellsCard : Claim7 := { stood := { row := ropeTellsRow, standIns := [], harness := (true, "ed8b6c3168ac870bf0e8db294ef9ff29b1bb19f13067c1a4f5f266a3cad420dc"), looks := true }, kinds := [], alts := [], laidByText := true, laidKinds := [.funcs], laidTests := true, laidLooks := .later }
def RopeTellsCardSaid : Prop := Claim7.holds Tryd.pinned (.plain (OpenSpec.ofChange ropeTellsSpec)) ropeTellsCard

/-- THE TIED CARD OF 'sheafworkslaw06.RopeKeeps'. -/
def ropeKeepsCard : Claim7 := { stood := { row := ropeKeepsRow, standIns := [], harness := (true, "ed8b6c3168ac870bf0e8db294ef9ff29b1bb19f13067c1a4f5f266a3cad420dc"), looks := true }, kinds := [], alts := [], laidByText := true, laidKinds := [.funcs], laidTests := true, laidLooks := .later }
def RopeKeepsCardSaid : Prop := Claim7.holds Tryd.pinned (.plain (OpenSpec.ofChange ropeKeepsSpec)) ropeKeepsCard

/-- THE TIED CARD OF 'sheafworkslaw06.RopeMakes'. -/
def ropeMakesCard : Claim7 := { stood := { row := ropeMakesRow, standIns := [], harness := (true, "ed8b6c3168ac870bf0e8db294ef9ff29b1bb19f13067c1a4f5f266a3cad420dc"), looks := true }, kinds := [], alts := [], laidByText := true, laidKinds := [.funcs], laidTests := true, laidLooks := .later }
def RopeMakesCardSaid : Prop := Claim7.holds Tryd.pinned (.plain (OpenSpec.ofChange ropeMakesSpec)) ropeMakesCard

/-- THE TIED CARD OF 'sheafworkslaw06.RopeHolds'. -/
def ropeHoldsCard : Claim7 := { stood := { row := ropeHoldsRow, standIns := [], harness := (true, "ed8b6c3168ac870bf0e8db294ef9ff29b1bb19f13067c1a4f5f266a3cad420dc"), looks := true }, kinds := [], alts := [], laidByText := true, laidKinds := [.funcs], laidTests := true, laidLooks := .later }
def RopeHoldsCardSaid : Prop := Claim7.holds Tryd.pinned (.plain (OpenSpec.ofChange ropeHoldsSpec)) ropeHoldsCard

/-- THE TIED CARD OF 'sheafworkslaw06.RopeCosts'. -/
def ropeCostsCard : Claim7 := { stood := { row := ropeCostsRow, standIns := [], harness := (true, "ed8b6c3168ac870bf0e8db294ef9ff29b1bb19f13067c1a4f5f266a3cad420dc"), looks := true }, kinds := [], alts := [], laidByText := true, laidKinds := [.funcs], laidTests := true, laidLooks := .later }
def RopeCostsCardSaid : Prop := Claim7.holds Tryd.pinned (.plain (OpenSpec.ofChange ropeCostsSpec)) ropeCostsCard

/-- THE TIED CARD OF 'sheafworkslaw06.RopeEvened'. -/
def ropeEvenedCard : Claim7 := { stood := { row := ropeEvenedRow, standIns := [], harness := (true, "ed8b6c3168ac870bf0e8db294ef9ff29b1bb19f13067c1a4f5f266a3cad420dc"), looks := true }, kinds := [], alts := [], laidByText := true, laidKinds := [.funcs], laidTests := true, laidLooks := .later }
def RopeEvenedCardSaid : Prop := Claim7.holds Tryd.pinned (.plain (OpenSpec.ofChange ropeEvenedSpec)) ropeEvenedCard

/-- THE TIED CARD OF 'sheafworkslaw06.RopeKept'. -/
def ropeKeptCard : Claim7 := { stood := { row := ropeKeptRow, standIns := [], harness := (true, "ed8b6c3168ac870bf0e8db294ef9ff29b1bb19f13067c1a4f5f266a3cad420dc"), looks := true }, kinds := [], alts := [], laidByText := true, laidKinds := [.funcs], laidTests := true, laidLooks := .later }
def RopeKeptCardSaid : Prop := Claim7.holds Tryd.pinned (.plain (OpenSpec.ofChange ropeKeptSpec)) ropeKeptCard

/-- THE TIED CARD OF 'sheafworkslaw06.RopeKnown'. -/
def ropeKnownCard : Claim7 := { stood := { row := ropeKnownRow, standIns := [], harness := (true, "ed8b6c3168ac870bf0e8db294ef9ff29b1bb19f13067c1a4f5f266a3cad420dc"), looks := true }, kinds := [], alts := [], laidByText := true, laidKinds := [.funcs], laidTests := true, laidLooks := .later }
def RopeKnownCardSaid : Prop := Claim7.holds Tryd.pinned (.plain (OpenSpec.ofChange ropeKnownSpec)) ropeKnownCard

/-- THE SECOND FORM's CARD OF 'sheafworkslaw06.RopeTells'. -/
def ropeTellsUptoCard : Claim7 := { stood := { row := ropeTellsUptoRow, standIns := [], harness := (true, "ed8b6c3168ac870bf0e8db294ef9ff29b1bb19f13067c1a4f5f266a3cad420dc"), looks := true }, kinds := [], alts := [], laidByText := true, laidKinds := [.funcs], laidTests := true, laidLooks := .later }
def RopeTellsUptoCardSaid : Prop := Claim7.holds Tryd.pinned (.plain (OpenSpec.upto ropeTellsSpec)) ropeTellsUptoCard

/-- THE SECOND FORM's CARD OF 'sheafworkslaw06.RopeKeeps'. -/
def ropeKeepsUptoCard : Claim7 := { stood := { row := ropeKeepsUptoRow, standIns := [], harness := (true, "ed8b6c3168ac870bf0e8db294ef9ff29b1bb19f13067c1a4f5f266a3cad420dc"), looks := true }, kinds := [], alts := [], laidByText := true, laidKinds := [.funcs], laidTests := true, laidLooks := .later }
def RopeKeepsUptoCardSaid : Prop := Claim7.holds Tryd.pinned (.plain (OpenSpec.upto ropeKeepsSpec)) ropeKeepsUptoCard

/-- THE SECOND FORM's CARD OF 'sheafworkslaw06.RopeMakes'. -/
def ropeMakesUptoCard : Claim7 := { stood := { row := ropeMakesUptoRow, standIns := [], harness := (true, "ed8b6c3168ac870bf0e8db294ef9ff29b1bb19f13067c1a4f5f266a3cad420dc"), looks := true }, kinds := [], alts := [], laidByText := true, laidKinds := [.funcs], laidTests := true, laidLooks := .later }
def RopeMakesUptoCardSaid : Prop := Claim7.holds Tryd.pinned (.plain (OpenSpec.upto ropeMakesSpec)) ropeMakesUptoCard

/-- THE SECOND FORM's CARD OF 'sheafworkslaw06.RopeHolds'. -/
def ropeHoldsUptoCard : Claim7 := { stood := { row := ropeHoldsUptoRow, standIns := [], harness := (true, "ed8b6c3168ac870bf0e8db294ef9ff29b1bb19f13067c1a4f5f266a3cad420dc"), looks := true }, kinds := [], alts := [], laidByText := true, laidKinds := [.funcs], laidTests := true, laidLooks := .later }
def RopeHoldsUptoCardSaid : Prop := Claim7.holds Tryd.pinned (.plain (OpenSpec.upto ropeHoldsSpec)) ropeHoldsUptoCard

/-- THE SECOND FORM's CARD OF 'sheafworkslaw06.RopeCosts'. -/
def ropeCostsUptoCard : Claim7 := { stood := { row := ropeCostsUptoRow, standIns := [], harness := (true, "ed8b6c3168ac870bf0e8db294ef9ff29b1bb19f13067c1a4f5f266a3cad420dc"), looks := true }, kinds := [], alts := [], laidByText := true, laidKinds := [.funcs], laidTests := true, laidLooks := .later }
def RopeCostsUptoCardSaid : Prop := Claim7.holds Tryd.pinned (.plain (OpenSpec.upto ropeCostsSpec)) ropeCostsUptoCard

/-- THE SECOND FORM's CARD OF 'sheafworkslaw06.RopeEvened'. -/
def ropeEvenedUptoCard : Claim7 := { stood := { row := ropeEvenedUptoRow, standIns := [], harness := (true, "ed8b6c3168ac870bf0e8db294ef9ff29b1bb19f13067c1a4f5f266a3cad420dc"), looks := true }, kinds := [], alts := [], laidByText := true, laidKinds := [.funcs], laidTests := true, laidLooks := .later }
def RopeEvenedUptoCardSaid : Prop := Claim7.holds Tryd.pinned (.plain (OpenSpec.upto ropeEvenedSpec)) ropeEvenedUptoCard

/-- THE SECOND FORM's CARD OF 'sheafworkslaw06.RopeKept'. -/
def ropeKeptUptoCard : Claim7 := { stood := { row := ropeKeptUptoRow, standIns := [], harness := (true, "ed8b6c3168ac870bf0e8db294ef9ff29b1bb19f13067c1a4f5f266a3cad420dc"), looks := true }, kinds := [], alts := [], laidByText := true, laidKinds := [.funcs], laidTests := true, laidLooks := .later }
def RopeKeptUptoCardSaid : Prop := Claim7.holds Tryd.pinned (.plain (OpenSpec.upto ropeKeptSpec)) ropeKeptUptoCard

/-- THE SECOND FORM's CARD OF 'sheafworkslaw06.RopeKnown'. -/
def ropeKnownUptoCard : Claim7 := { stood := { row := ropeKnownUptoRow, standIns := [], harness := (true, "ed8b6c3168ac870bf0e8db294ef9ff29b1bb19f13067c1a4f5f266a3cad420dc"), looks := true }, kinds := [], alts := [], laidByText := true, laidKinds := [.funcs], laidTests := true, laidLooks := .later }
def RopeKnownUptoCardSaid : Prop := Claim7.holds Tryd.pinned (.plain (OpenSpec.upto ropeKnownSpec)) ropeKnownUptoCard
end Rows
end Go.Proofs.YtcgjnkdcfpegiaaDoor
