/-
  DERIVED. GIVEN WITH THE SEED: THE CARDS: each row of YtlpalhagndmpjaaDoorRows.lean that lists a variable, with what it lists TIED to the program's text (the seventh form; the later family's looks); each row that meets fmt, with fmt's text TOLD by the authors' own Lean function (tested against real Go, not proved from fmt's source: count such statements apart). THE CARD IS WHAT COUNTS. Prove the row's statement (the work); the ties are given (YtlpalhagndmpjaaDoorTie.lean); close each card by the builder's one call (the guide's Derived/Test/ToyasCard.lean, 'card_holds'). Laid BY PROGRAM, IN A SANDBOX (cutbox-door.mjs). By AI agents, Wed Nov 11 2026. No macro, syntax, notation, axiom, sorry.
-/
import Derived.Test.YtlpalhagndmpjaaDoorRows
import GoSem.ClaimSeven
namespace Go.Proofs.YtlpalhagndmpjaaDoor
namespace Rows

/-- THE TIED CARD OF 'sealringkeep.TapeBack'. -/
def tapeBackCard : Claim7 := { stood := { row := tapeBackRow, standIns := [], harness := (true, "f7a74328c492f3c99ba5d6b6b3748c233251e490d23220261f559c601ba2e127"), looks := false }, kinds := [], alts := [], laidByText := true, laidKinds := [.data], laidTests := true, laidLooks := .later }
def TapeBackCardSaid : Prop := Claim7.holds Tryd.pinned (.plain (OpenSpec.ofChange tapeBackSpec)) tapeBackCard

/-- THE TIED CARD OF 'sealringkeep.TapeCuts'. -/
def tapeCutsCard : Claim7 := { stood := { row := tapeCutsRow, standIns := [], harness := (true, "f7a74328c492f3c99ba5d6b6b3748c233251e490d23220261f559c601ba2e127"), looks := false }, kinds := [], alts := [], laidByText := true, laidKinds := [.data], laidTests := true, laidLooks := .later }
def TapeCutsCardSaid : Prop := Claim7.holds Tryd.pinned (.plain (OpenSpec.ofChange tapeCutsSpec)) tapeCutsCard

/-- THE TIED CARD OF 'sealringkeep.TapeGoes'. -/
def tapeGoesCard : Claim7 := { stood := { row := tapeGoesRow, standIns := [], harness := (true, "f7a74328c492f3c99ba5d6b6b3748c233251e490d23220261f559c601ba2e127"), looks := false }, kinds := [], alts := [], laidByText := true, laidKinds := [.data], laidTests := true, laidLooks := .later }
def TapeGoesCardSaid : Prop := Claim7.holds Tryd.pinned (.plain (OpenSpec.ofChange tapeGoesSpec)) tapeGoesCard

/-- THE TIED CARD OF 'sealringkeep.TapeOne'. -/
def tapeOneCard : Claim7 := { stood := { row := tapeOneRow, standIns := [], harness := (true, "f7a74328c492f3c99ba5d6b6b3748c233251e490d23220261f559c601ba2e127"), looks := false }, kinds := [], alts := [], laidByText := true, laidKinds := [.data], laidTests := true, laidLooks := .later }
def TapeOneCardSaid : Prop := Claim7.holds Tryd.pinned (.plain (OpenSpec.ofChange tapeOneSpec)) tapeOneCard

/-- THE SECOND FORM's CARD OF 'sealringkeep.TapeBack'. -/
def tapeBackUptoCard : Claim7 := { stood := { row := tapeBackUptoRow, standIns := [], harness := (true, "f7a74328c492f3c99ba5d6b6b3748c233251e490d23220261f559c601ba2e127"), looks := false }, kinds := [], alts := [], laidByText := true, laidKinds := [.data], laidTests := true, laidLooks := .later }
def TapeBackUptoCardSaid : Prop := Claim7.holds Tryd.pinned (.plain (OpenSpec.upto tapeBackSpec)) tapeBackUptoCard

/-- THE SECOND FORM's CARD OF 'sealringkeep.TapeCuts'. -/
def tapeCutsUptoCard : Claim7 := { stood := { row := tapeCutsUptoRow, standIns := [], harness := (true, "f7a74328c492f3c99ba5d6b6b3748c233251e490d23220261f559c601ba2e127"), looks := false }, kinds := [], alts := [], laidByText := true, laidKinds := [.data], laidTests := true, laidLooks := .later }
def TapeCutsUptoCardSaid : Prop := Claim7.holds Tryd.pinned (.plain (OpenSpec.upto tapeCutsSpec)) tapeCutsUptoCard

/-- THE SECOND FORM's CARD OF 'sealringkeep.TapeGoes'. -/
def tapeGoesUptoCard : Claim7 := { stood := { row := tapeGoesUptoRow, standIns := [], harness := (true, "f7a74328c492f3c99ba5d6b6b3748c233251e490d23220261f559c601ba2e127"), looks := false }, kinds := [], alts := [], laidByText := true, laidKinds := [.data], laidTests := true, laidLooks := .later }
def TapeGoesUptoCardSaid : Prop := Claim7.holds Tryd.pinned (.plain (OpenSpec.upto tapeGoesSpec)) tapeGoesUptoCard

/-- THE SECOND FORM's CARD OF 'sealringkeep.TapeOne'. -/
def tapeOneUptoCard : Claim7 := { stood := { row := tapeOneUptoRow, standIns := [], harness := (true, "f7a74328c492f3c99ba5d6b6b3748c233251e490d23220261f559c601ba2e127"), looks := false }, kinds := [], alts := [], laidByText := true, laidKinds := [.data], laidTests := true, laidLooks := .later }
def TapeOneUptoCardSaid : Prop := Claim7.holds Tryd.pinned (.plain (OpenSpec.upto tapeOneSpec)) tapeOneUptoCard
end Rows
end Go.Proofs.YtlpalhagndmpjaaDoor
