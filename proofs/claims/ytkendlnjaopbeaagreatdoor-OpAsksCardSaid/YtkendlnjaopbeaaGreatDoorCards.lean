/-
  DERIVED. GIVEN WITH THE SEED: THE CARDS: each row of YtkendlnjaopbeaaGreatDoorRows.lean that lists a variable, with what it lists TIED to the program's text (the seventh form; the later family's looks); each row that meets fmt, with fmt's text TOLD by the authors' own Lean function (tested against real Go, not proved from fmt's source: count such statements apart). THE CARD IS WHAT COUNTS. Prove the row's statement (the work); the ties are given (YtkendlnjaopbeaaGreatDoorTie.lean); close each card by the builder's one call (the guide's Derived/Test/ToyasCard.lean, 'card_holds'). Laid BY PROGRAM, IN A SANDBOX (cutbox-door.mjs). By AI agents, Wed Nov 11 2026. No macro, syntax, notation, axiom, sorry.
-/
import Derived.Test.YtkendlnjaopbeaaGreatDoorRows
import GoSem.ClaimSeven
namespace Go.Proofs.YtkendlnjaopbeaaGreatDoor
namespace Rows

/-- THE TIED CARD OF 'sealringkeep.OpAsks'. -/
def opAsksCard : Claim7 := { stood := { row := opAsksRow, standIns := [], harness := (true, "bffce2eb87bb22a262147625783599fefb62e67d688eb4b1e8b9a824369adcf3"), looks := true }, kinds := [], alts := [], laidByText := true, laidKinds := [.data], laidTests := true, laidLooks := .later }
def OpAsksCardSaid : Prop := Claim7.holds Tryz.pinned (.plain (OpenSpec.ofChange opAsksSpec)) opAsksCard

/-- THE TIED CARD OF 'sealringkeep.OpParts'. -/
def opPartsCard : Claim7 := { stood := { row := opPartsRow, standIns := [], harness := (true, "bffce2eb87bb22a262147625783599fefb62e67d688eb4b1e8b9a824369adcf3"), looks := true }, kinds := [], alts := [], laidByText := true, laidKinds := [.data], laidTests := true, laidLooks := .later }
def OpPartsCardSaid : Prop := Claim7.holds Tryz.pinned (.plain (OpenSpec.ofChange opPartsSpec)) opPartsCard

/-- THE TIED CARD OF 'sealringkeep.OpBack'. -/
def opBackCard : Claim7 := { stood := { row := opBackRow, standIns := [], harness := (true, "bffce2eb87bb22a262147625783599fefb62e67d688eb4b1e8b9a824369adcf3"), looks := true }, kinds := [], alts := [], laidByText := true, laidKinds := [.data], laidTests := true, laidLooks := .later }
def OpBackCardSaid : Prop := Claim7.holds Tryz.pinned (.plain (OpenSpec.ofChange opBackSpec)) opBackCard

/-- THE TIED CARD OF 'sealringkeep.OpOver'. -/
def opOverCard : Claim7 := { stood := { row := opOverRow, standIns := [], harness := (true, "bffce2eb87bb22a262147625783599fefb62e67d688eb4b1e8b9a824369adcf3"), looks := true }, kinds := [], alts := [], laidByText := true, laidKinds := [.data], laidTests := true, laidLooks := .later }
def OpOverCardSaid : Prop := Claim7.holds Tryz.pinned (.plain (OpenSpec.ofChange opOverSpec)) opOverCard

/-- THE TIED CARD OF 'sealringkeep.OpTrue'. -/
def opTrueCard : Claim7 := { stood := { row := opTrueRow, standIns := [], harness := (true, "bffce2eb87bb22a262147625783599fefb62e67d688eb4b1e8b9a824369adcf3"), looks := true }, kinds := [], alts := [], laidByText := true, laidKinds := [.data], laidTests := true, laidLooks := .later }
def OpTrueCardSaid : Prop := Claim7.holds Tryz.pinned (.plain (OpenSpec.ofChange opTrueSpec)) opTrueCard

/-- THE SECOND FORM's CARD OF 'sealringkeep.OpAsks'. -/
def opAsksUptoCard : Claim7 := { stood := { row := opAsksUptoRow, standIns := [], harness := (true, "bffce2eb87bb22a262147625783599fefb62e67d688eb4b1e8b9a824369adcf3"), looks := true }, kinds := [], alts := [], laidByText := true, laidKinds := [.data], laidTests := true, laidLooks := .later }
def OpAsksUptoCardSaid : Prop := Claim7.holds Tryz.pinned (.plain (OpenSpec.upto opAsksSpec)) opAsksUptoCard

/-- THE SECOND FORM's CARD OF 'sealringkeep.OpParts'. -/
def opPartsUptoCard : Claim7 := { stood := { row := opPartsUptoRow, standIns := [], harness := (true, "bffce2eb87bb22a262147625783599fefb62e67d688eb4b1e8b9a824369adcf3"), looks := true }, kinds := [], alts := [], laidByText := true, laidKinds := [.data], laidTests := true, laidLooks := .later }
def OpPartsUptoCardSaid : Prop := Claim7.holds Tryz.pinned (.plain (OpenSpec.upto opPartsSpec)) opPartsUptoCard

/-- THE SECOND FORM's CARD OF 'sealringkeep.OpBack'. -/
def opBackUptoCard : Claim7 := { stood := { row := opBackUptoRow, standIns := [], harness := (true, "bffce2eb87bb22a262147625783599fefb62e67d688eb4b1e8b9a824369adcf3"), looks := true }, kinds := [], alts := [], laidByText := true, laidKinds := [.data], laidTests := true, laidLooks := .later }
def OpBackUptoCardSaid : Prop := Claim7.holds Tryz.pinned (.plain (OpenSpec.upto opBackSpec)) opBackUptoCard

/-- THE SECOND FORM's CARD OF 'sealringkeep.OpOver'. -/
def opOverUptoCard : Claim7 := { stood := { row := opOverUptoRow, standIns := [], harness := (true, "bffce2eb87bb22a262147625783599fefb62e67d688eb4b1e8b9a824369adcf3"), looks := true }, kinds := [], alts := [], laidByText := true, laidKinds := [.data], laidTests := true, laidLooks := .later }
def OpOverUptoCardSaid : Prop := Claim7.holds Tryz.pinned (.plain (OpenSpec.upto opOverSpec)) opOverUptoCard

/-- THE SECOND FORM's CARD OF 'sealringkeep.OpTrue'. -/
def opTrueUptoCard : Claim7 := { stood := { row := opTrueUptoRow, standIns := [], harness := (true, "bffce2eb87bb22a262147625783599fefb62e67d688eb4b1e8b9a824369adcf3"), looks := true }, kinds := [], alts := [], laidByText := true, laidKinds := [.data], laidTests := true, laidLooks := .later }
def OpTrueUptoCardSaid : Prop := Claim7.holds Tryz.pinned (.plain (OpenSpec.upto opTrueSpec)) opTrueUptoCard
end Rows
end Go.Proofs.YtkendlnjaopbeaaGreatDoor
