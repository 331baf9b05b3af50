/-
  DERIVED. GIVEN WITH THE SEED: THE CARDS: each row of YthigacbelefadaaDoorRows.lean that lists a variable, with what it lists TIED to the program's text (the seventh form; the later family's looks); each row that meets fmt, with fmt's text TOLD by the authors' own Lean function (tested against real Go, not proved from fmt's source: count such statements apart). THE CARD IS WHAT COUNTS. Prove the row's statement (the work); the ties are given (YthigacbelefadaaDoorTie.lean); close each card by the builder's one call (the guide's Derived/Test/ToyasCard.lean, 'card_holds'). Laid BY PROGRAM, IN A SANDBOX (cutbox-door.mjs). By AI agents, Wed Nov 11 2026. No macro, syntax, notation, axiom, sorry.
-/
import Derived.Test.YthigacbelefadaaDoorRows
import GoSem.ClaimSeven
namespace Go.Proofs.YthigacbelefadaaDoor
namespace Rows

/-- THE TIED CARD OF 'sealringkeep.SafeBack'. -/
def safeBackCard : Claim7 := { stood := { row := safeBackRow, standIns := [], harness := (true, "d31bf36903b8d9484d4b09fc201f3c4668ccc5653bd66ddd88d985eafff1f6e5"), looks := false }, kinds := [], alts := [], laidByText := true, laidKinds := [.data], laidTests := true, laidLooks := .later }
def SafeBackCardSaid : Prop := Claim7.holds Tryd.pinned (.plain (OpenSpec.ofChange safeBackSpec)) safeBackCard

/-- THE TIED CARD OF 'sealringkeep.SafeOne'. -/
def safeOneCard : Claim7 := { stood := { row := safeOneRow, standIns := [], harness := (true, "d31bf36903b8d9484d4b09fc201f3c4668ccc5653bd66ddd88d985eafff1f6e5"), looks := false }, kinds := [], alts := [], laidByText := true, laidKinds := [.data], laidTests := true, laidLooks := .later }
def SafeOneCardSaid : Prop := Claim7.holds Tryd.pinned (.plain (OpenSpec.ofChange safeOneSpec)) safeOneCard

/-- THE SECOND FORM's CARD OF 'sealringkeep.SafeBack'. -/
def safeBackUptoCard : Claim7 := { stood := { row := safeBackUptoRow, standIns := [], harness := (true, "d31bf36903b8d9484d4b09fc201f3c4668ccc5653bd66ddd88d985eafff1f6e5"), looks := false }, kinds := [], alts := [], laidByText := true, laidKinds := [.data], laidTests := true, laidLooks := .later }
def SafeBackUptoCardSaid : Prop := Claim7.holds Tryd.pinned (.plain (OpenSpec.upto safeBackSpec)) safeBackUptoCard

/-- THE SECOND FORM's CARD OF 'sealringkeep.SafeOne'. -/
def safeOneUptoCard : Claim7 := { stood := { row := safeOneUptoRow, standIns := [], harness := (true, "d31bf36903b8d9484d4b09fc201f3c4668ccc5653bd66ddd88d985eafff1f6e5"), looks := false }, kinds := [], alts := [], laidByText := true, laidKinds := [.data], laidTests := true, laidLooks := .later }
def SafeOneUptoCardSaid : Prop := Claim7.holds Tryd.pinned (.plain (OpenSpec.upto safeOneSpec)) safeOneUptoCard
end Rows
end Go.Proofs.YthigacbelefadaaDoor
