/-
  DERIVED. GIVEN WITH THE SEED: THE CARDS: each row of YtkbgkobbadjpnaaDoorRows.lean that lists a variable, with what it lists TIED to the program's text (the seventh form; the later family's looks); each row that meets fmt, with fmt's text TOLD by the authors' own Lean function (tested against real Go, not proved from fmt's source: count such statements apart). THE CARD IS WHAT COUNTS. Prove the row's statement (the work); the ties are given (YtkbgkobbadjpnaaDoorTie.lean); close each card by the builder's one call (the guide's Derived/Test/ToyasCard.lean, 'card_holds'). Laid BY PROGRAM, IN A SANDBOX (cutbox-door.mjs). By AI agents, Wed Nov 11 2026. No macro, syntax, notation, axiom, sorry.
-/
import Derived.Test.YtkbgkobbadjpnaaDoorRows
import GoSem.ClaimSeven
namespace Go.Proofs.YtkbgkobbadjpnaaDoor
namespace Rows

/-- THE TIED CARD OF 'sealringkeep.SignOnly'. -/
def signOnlyCard : Claim7 := { stood := { row := signOnlyRow, standIns := [], harness := (true, "7e8e5c6062557fbf841886452468cad150c6c7652a573b7992a2bb8019c44889"), looks := false }, kinds := [], alts := [], laidByText := true, laidKinds := [.data], laidTests := true, laidLooks := .later }
def SignOnlyCardSaid : Prop := Claim7.holds Tryd.pinned (.plain (OpenSpec.ofChange signOnlySpec)) signOnlyCard

/-- THE TIED CARD OF 'sealringkeep.SignPairs'. -/
def signPairsCard : Claim7 := { stood := { row := signPairsRow, standIns := [], harness := (true, "7e8e5c6062557fbf841886452468cad150c6c7652a573b7992a2bb8019c44889"), looks := false }, kinds := [], alts := [], laidByText := true, laidKinds := [.data], laidTests := true, laidLooks := .later }
def SignPairsCardSaid : Prop := Claim7.holds Tryd.pinned (.plain (OpenSpec.ofChange signPairsSpec)) signPairsCard

/-- THE TIED CARD OF 'sealringkeep.SignTrue'. -/
def signTrueCard : Claim7 := { stood := { row := signTrueRow, standIns := [], harness := (true, "7e8e5c6062557fbf841886452468cad150c6c7652a573b7992a2bb8019c44889"), looks := false }, kinds := [], alts := [], laidByText := true, laidKinds := [.data], laidTests := true, laidLooks := .later }
def SignTrueCardSaid : Prop := Claim7.holds Tryd.pinned (.plain (OpenSpec.ofChange signTrueSpec)) signTrueCard

/-- THE TIED CARD OF 'sealringkeep.SignAgain'. -/
def signAgainCard : Claim7 := { stood := { row := signAgainRow, standIns := [], harness := (true, "7e8e5c6062557fbf841886452468cad150c6c7652a573b7992a2bb8019c44889"), looks := false }, kinds := [], alts := [], laidByText := true, laidKinds := [.data], laidTests := true, laidLooks := .later }
def SignAgainCardSaid : Prop := Claim7.holds Tryd.pinned (.plain (OpenSpec.ofChange signAgainSpec)) signAgainCard

/-- THE TIED CARD OF 'sealringkeep.SignBatch'. -/
def signBatchCard : Claim7 := { stood := { row := signBatchRow, standIns := [], harness := (true, "7e8e5c6062557fbf841886452468cad150c6c7652a573b7992a2bb8019c44889"), looks := false }, kinds := [], alts := [], laidByText := true, laidKinds := [.data], laidTests := true, laidLooks := .later }
def SignBatchCardSaid : Prop := Claim7.holds Tryd.pinned (.plain (OpenSpec.ofChange signBatchSpec)) signBatchCard

/-- THE TIED CARD OF 'sealringkeep.SignAlone'. -/
def signAloneCard : Claim7 := { stood := { row := signAloneRow, standIns := [], harness := (true, "7e8e5c6062557fbf841886452468cad150c6c7652a573b7992a2bb8019c44889"), looks := false }, kinds := [], alts := [], laidByText := true, laidKinds := [.data], laidTests := true, laidLooks := .later }
def SignAloneCardSaid : Prop := Claim7.holds Tryd.pinned (.plain (OpenSpec.ofChange signAloneSpec)) signAloneCard

/-- THE TIED CARD OF 'sealringkeep.ShareSums'. -/
def shareSumsCard : Claim7 := { stood := { row := shareSumsRow, standIns := [], harness := (true, "7e8e5c6062557fbf841886452468cad150c6c7652a573b7992a2bb8019c44889"), looks := false }, kinds := [], alts := [], laidByText := true, laidKinds := [.data], laidTests := true, laidLooks := .later }
def ShareSumsCardSaid : Prop := Claim7.holds Tryd.pinned (.plain (OpenSpec.ofChange shareSumsSpec)) shareSumsCard

/-- THE TIED CARD OF 'sealringkeep.ShareFew'. -/
def shareFewCard : Claim7 := { stood := { row := shareFewRow, standIns := [], harness := (true, "7e8e5c6062557fbf841886452468cad150c6c7652a573b7992a2bb8019c44889"), looks := false }, kinds := [], alts := [], laidByText := true, laidKinds := [.data], laidTests := true, laidLooks := .later }
def ShareFewCardSaid : Prop := Claim7.holds Tryd.pinned (.plain (OpenSpec.ofChange shareFewSpec)) shareFewCard

/-- THE TIED CARD OF 'sealringkeep.ShareMore'. -/
def shareMoreCard : Claim7 := { stood := { row := shareMoreRow, standIns := [], harness := (true, "7e8e5c6062557fbf841886452468cad150c6c7652a573b7992a2bb8019c44889"), looks := false }, kinds := [], alts := [], laidByText := true, laidKinds := [.data], laidTests := true, laidLooks := .later }
def ShareMoreCardSaid : Prop := Claim7.holds Tryd.pinned (.plain (OpenSpec.ofChange shareMoreSpec)) shareMoreCard

/-- THE TIED CARD OF 'sealringkeep.ShareAny'. -/
def shareAnyCard : Claim7 := { stood := { row := shareAnyRow, standIns := [], harness := (true, "7e8e5c6062557fbf841886452468cad150c6c7652a573b7992a2bb8019c44889"), looks := false }, kinds := [], alts := [], laidByText := true, laidKinds := [.data], laidTests := true, laidLooks := .later }
def ShareAnyCardSaid : Prop := Claim7.holds Tryd.pinned (.plain (OpenSpec.ofChange shareAnySpec)) shareAnyCard

/-- THE SECOND FORM's CARD OF 'sealringkeep.SignOnly'. -/
def signOnlyUptoCard : Claim7 := { stood := { row := signOnlyUptoRow, standIns := [], harness := (true, "7e8e5c6062557fbf841886452468cad150c6c7652a573b7992a2bb8019c44889"), looks := false }, kinds := [], alts := [], laidByText := true, laidKinds := [.data], laidTests := true, laidLooks := .later }
def SignOnlyUptoCardSaid : Prop := Claim7.holds Tryd.pinned (.plain (OpenSpec.upto signOnlySpec)) signOnlyUptoCard

/-- THE SECOND FORM's CARD OF 'sealringkeep.SignPairs'. -/
def signPairsUptoCard : Claim7 := { stood := { row := signPairsUptoRow, standIns := [], harness := (true, "7e8e5c6062557fbf841886452468cad150c6c7652a573b7992a2bb8019c44889"), looks := false }, kinds := [], alts := [], laidByText := true, laidKinds := [.data], laidTests := true, laidLooks := .later }
def SignPairsUptoCardSaid : Prop := Claim7.holds Tryd.pinned (.plain (OpenSpec.upto signPairsSpec)) signPairsUptoCard

/-- THE SECOND FORM's CARD OF 'sealringkeep.SignTrue'. -/
def signTrueUptoCard : Claim7 := { stood := { row := signTrueUptoRow, standIns := [], harness := (true, "7e8e5c6062557fbf841886452468cad150c6c7652a573b7992a2bb8019c44889"), looks := false }, kinds := [], alts := [], laidByText := true, laidKinds := [.data], laidTests := true, laidLooks := .later }
def SignTrueUptoCardSaid : Prop := Claim7.holds Tryd.pinned (.plain (OpenSpec.upto signTrueSpec)) signTrueUptoCard

/-- THE SECOND FORM's CARD OF 'sealringkeep.SignAgain'. -/
def signAgainUptoCard : Claim7 := { stood := { row := signAgainUptoRow, standIns := [], harness := (true, "7e8e5c6062557fbf841886452468cad150c6c7652a573b7992a2bb8019c44889"), looks := false }, kinds := [], alts := [], laidByText := true, laidKinds := [.data], laidTests := true, laidLooks := .later }
def SignAgainUptoCardSaid : Prop := Claim7.holds Tryd.pinned (.plain (OpenSpec.upto signAgainSpec)) signAgainUptoCard

/-- THE SECOND FORM's CARD OF 'sealringkeep.SignBatch'. -/
def signBatchUptoCard : Claim7 := { stood := { row := signBatchUptoRow, standIns := [], harness := (true, "7e8e5c6062557fbf841886452468cad150c6c7652a573b7992a2bb8019c44889"), looks := false }, kinds := [], alts := [], laidByText := true, laidKinds := [.data], laidTests := true, laidLooks := .later }
def SignBatchUptoCardSaid : Prop := Claim7.holds Tryd.pinned (.plain (OpenSpec.upto signBatchSpec)) signBatchUptoCard

/-- THE SECOND FORM's CARD OF 'sealringkeep.SignAlone'. -/
def signAloneUptoCard : Claim7 := { stood := { row := signAloneUptoRow, standIns := [], harness := (true, "7e8e5c6062557fbf841886452468cad150c6c7652a573b7992a2bb8019c44889"), looks := false }, kinds := [], alts := [], laidByText := true, laidKinds := [.data], laidTests := true, laidLooks := .later }
def SignAloneUptoCardSaid : Prop := Claim7.holds Tryd.pinned (.plain (OpenSpec.upto signAloneSpec)) signAloneUptoCard

/-- THE SECOND FORM's CARD OF 'sealringkeep.ShareSums'. -/
def shareSumsUptoCard : Claim7 := { stood := { row := shareSumsUptoRow, standIns := [], harness := (true, "7e8e5c6062557fbf841886452468cad150c6c7652a573b7992a2bb8019c44889"), looks := false }, kinds := [], alts := [], laidByText := true, laidKinds := [.data], laidTests := true, laidLooks := .later }
def ShareSumsUptoCardSaid : Prop := Claim7.holds Tryd.pinned (.plain (OpenSpec.upto shareSumsSpec)) shareSumsUptoCard

/-- THE SECOND FORM's CARD OF 'sealringkeep.ShareFew'. -/
def shareFewUptoCard : Claim7 := { stood := { row := shareFewUptoRow, standIns := [], harness := (true, "7e8e5c6062557fbf841886452468cad150c6c7652a573b7992a2bb8019c44889"), looks := false }, kinds := [], alts := [], laidByText := true, laidKinds := [.data], laidTests := true, laidLooks := .later }
def ShareFewUptoCardSaid : Prop := Claim7.holds Tryd.pinned (.plain (OpenSpec.upto shareFewSpec)) shareFewUptoCard

/-- THE SECOND FORM's CARD OF 'sealringkeep.ShareMore'. -/
def shareMoreUptoCard : Claim7 := { stood := { row := shareMoreUptoRow, standIns := [], harness := (true, "7e8e5c6062557fbf841886452468cad150c6c7652a573b7992a2bb8019c44889"), looks := false }, kinds := [], alts := [], laidByText := true, laidKinds := [.data], laidTests := true, laidLooks := .later }
def ShareMoreUptoCardSaid : Prop := Claim7.holds Tryd.pinned (.plain (OpenSpec.upto shareMoreSpec)) shareMoreUptoCard

/-- THE SECOND FORM's CARD OF 'sealringkeep.ShareAny'. -/
def shareAnyUptoCard : Claim7 := { stood := { row := shareAnyUptoRow, standIns := [], harness := (true, "7e8e5c6062557fbf841886452468cad150c6c7652a573b7992a2bb8019c44889"), looks := false }, kinds := [], alts := [], laidByText := true, laidKinds := [.data], laidTests := true, laidLooks := .later }
def ShareAnyUptoCardSaid : Prop := Claim7.holds Tryd.pinned (.plain (OpenSpec.upto shareAnySpec)) shareAnyUptoCard
end Rows
end Go.Proofs.YtkbgkobbadjpnaaDoor
