/-
  DERIVED. GIVEN WITH THE SEED: THE CARDS: each row of YtdhoboilpngnaaaDoorRows.lean that lists a variable, with what it lists TIED to the program's text (the seventh form; the later family's looks); each row that meets fmt, with fmt's text TOLD by the authors' own Lean function (tested against real Go, not proved from fmt's source: count such statements apart). THE CARD IS WHAT COUNTS. Prove the row's statement (the work); the ties are given (YtdhoboilpngnaaaDoorTie.lean); close each card by the builder's one call (the guide's Derived/Test/ToyasCard.lean, 'card_holds'). Laid BY PROGRAM, IN A SANDBOX (cutbox-door.mjs). By AI agents, Wed Nov 11 2026. No macro, syntax, notation, axiom, sorry.
-/
import Derived.Test.YtdhoboilpngnaaaDoorRows
import GoSem.ClaimSeven
namespace Go.Proofs.YtdhoboilpngnaaaDoor
namespace Rows

/-- THE TIED CARD OF 'sealringkeep.TreePeaks'. -/
def treePeaksCard : Claim7 := { stood := { row := treePeaksRow, standIns := [], harness := (true, "451f2b1b9cbfd5bf3c5043f7e71b9fc390f3fd0d7dead4fa40457500b38979da"), looks := false }, kinds := [], alts := [], laidByText := true, laidKinds := [.data], laidTests := true, laidLooks := .later }
def TreePeaksCardSaid : Prop := Claim7.holds Tryd.pinned (.plain (OpenSpec.ofChange treePeaksSpec)) treePeaksCard

/-- THE TIED CARD OF 'sealringkeep.TreePaths'. -/
def treePathsCard : Claim7 := { stood := { row := treePathsRow, standIns := [], harness := (true, "451f2b1b9cbfd5bf3c5043f7e71b9fc390f3fd0d7dead4fa40457500b38979da"), looks := false }, kinds := [], alts := [], laidByText := true, laidKinds := [.data], laidTests := true, laidLooks := .later }
def TreePathsCardSaid : Prop := Claim7.holds Tryd.pinned (.plain (OpenSpec.ofChange treePathsSpec)) treePathsCard

/-- THE TIED CARD OF 'sealringkeep.TreeLongs'. -/
def treeLongsCard : Claim7 := { stood := { row := treeLongsRow, standIns := [], harness := (true, "451f2b1b9cbfd5bf3c5043f7e71b9fc390f3fd0d7dead4fa40457500b38979da"), looks := false }, kinds := [], alts := [], laidByText := true, laidKinds := [.data], laidTests := true, laidLooks := .later }
def TreeLongsCardSaid : Prop := Claim7.holds Tryd.pinned (.plain (OpenSpec.ofChange treeLongsSpec)) treeLongsCard

/-- THE TIED CARD OF 'sealringkeep.DrawKeys'. -/
def drawKeysCard : Claim7 := { stood := { row := drawKeysRow, standIns := [], harness := (true, "451f2b1b9cbfd5bf3c5043f7e71b9fc390f3fd0d7dead4fa40457500b38979da"), looks := false }, kinds := [], alts := [], laidByText := true, laidKinds := [.data], laidTests := true, laidLooks := .later }
def DrawKeysCardSaid : Prop := Claim7.holds Tryd.pinned (.plain (OpenSpec.ofChange drawKeysSpec)) drawKeysCard

/-- THE TIED CARD OF 'sealringkeep.DrawParts'. -/
def drawPartsCard : Claim7 := { stood := { row := drawPartsRow, standIns := [], harness := (true, "451f2b1b9cbfd5bf3c5043f7e71b9fc390f3fd0d7dead4fa40457500b38979da"), looks := false }, kinds := [], alts := [], laidByText := true, laidKinds := [.data], laidTests := true, laidLooks := .later }
def DrawPartsCardSaid : Prop := Claim7.holds Tryd.pinned (.plain (OpenSpec.ofChange drawPartsSpec)) drawPartsCard

/-- THE TIED CARD OF 'sealringkeep.DrawBlocks'. -/
def drawBlocksCard : Claim7 := { stood := { row := drawBlocksRow, standIns := [], harness := (true, "451f2b1b9cbfd5bf3c5043f7e71b9fc390f3fd0d7dead4fa40457500b38979da"), looks := false }, kinds := [], alts := [], laidByText := true, laidKinds := [.data], laidTests := true, laidLooks := .later }
def DrawBlocksCardSaid : Prop := Claim7.holds Tryd.pinned (.plain (OpenSpec.ofChange drawBlocksSpec)) drawBlocksCard

/-- THE TIED CARD OF 'sealringkeep.DrawBelow'. -/
def drawBelowCard : Claim7 := { stood := { row := drawBelowRow, standIns := [], harness := (true, "451f2b1b9cbfd5bf3c5043f7e71b9fc390f3fd0d7dead4fa40457500b38979da"), looks := false }, kinds := [], alts := [], laidByText := true, laidKinds := [.data], laidTests := true, laidLooks := .later }
def DrawBelowCardSaid : Prop := Claim7.holds Tryd.pinned (.plain (OpenSpec.ofChange drawBelowSpec)) drawBelowCard

/-- THE TIED CARD OF 'sealringkeep.PinStretch'. -/
def pinStretchCard : Claim7 := { stood := { row := pinStretchRow, standIns := [], harness := (true, "451f2b1b9cbfd5bf3c5043f7e71b9fc390f3fd0d7dead4fa40457500b38979da"), looks := false }, kinds := [], alts := [], laidByText := true, laidKinds := [.data], laidTests := true, laidLooks := .later }
def PinStretchCardSaid : Prop := Claim7.holds Tryd.pinned (.plain (OpenSpec.ofChange pinStretchSpec)) pinStretchCard

/-- THE TIED CARD OF 'sealringkeep.PinLocks'. -/
def pinLocksCard : Claim7 := { stood := { row := pinLocksRow, standIns := [], harness := (true, "451f2b1b9cbfd5bf3c5043f7e71b9fc390f3fd0d7dead4fa40457500b38979da"), looks := false }, kinds := [], alts := [], laidByText := true, laidKinds := [.data], laidTests := true, laidLooks := .later }
def PinLocksCardSaid : Prop := Claim7.holds Tryd.pinned (.plain (OpenSpec.ofChange pinLocksSpec)) pinLocksCard

/-- THE TIED CARD OF 'sealringkeep.PinBack'. -/
def pinBackCard : Claim7 := { stood := { row := pinBackRow, standIns := [], harness := (true, "451f2b1b9cbfd5bf3c5043f7e71b9fc390f3fd0d7dead4fa40457500b38979da"), looks := false }, kinds := [], alts := [], laidByText := true, laidKinds := [.data], laidTests := true, laidLooks := .later }
def PinBackCardSaid : Prop := Claim7.holds Tryd.pinned (.plain (OpenSpec.ofChange pinBackSpec)) pinBackCard

/-- THE TIED CARD OF 'sealringkeep.PinChanges'. -/
def pinChangesCard : Claim7 := { stood := { row := pinChangesRow, standIns := [], harness := (true, "451f2b1b9cbfd5bf3c5043f7e71b9fc390f3fd0d7dead4fa40457500b38979da"), looks := false }, kinds := [], alts := [], laidByText := true, laidKinds := [.data], laidTests := true, laidLooks := .later }
def PinChangesCardSaid : Prop := Claim7.holds Tryd.pinned (.plain (OpenSpec.ofChange pinChangesSpec)) pinChangesCard

/-- THE SECOND FORM's CARD OF 'sealringkeep.TreePeaks'. -/
def treePeaksUptoCard : Claim7 := { stood := { row := treePeaksUptoRow, standIns := [], harness := (true, "451f2b1b9cbfd5bf3c5043f7e71b9fc390f3fd0d7dead4fa40457500b38979da"), looks := false }, kinds := [], alts := [], laidByText := true, laidKinds := [.data], laidTests := true, laidLooks := .later }
def TreePeaksUptoCardSaid : Prop := Claim7.holds Tryd.pinned (.plain (OpenSpec.upto treePeaksSpec)) treePeaksUptoCard

/-- THE SECOND FORM's CARD OF 'sealringkeep.TreePaths'. -/
def treePathsUptoCard : Claim7 := { stood := { row := treePathsUptoRow, standIns := [], harness := (true, "451f2b1b9cbfd5bf3c5043f7e71b9fc390f3fd0d7dead4fa40457500b38979da"), looks := false }, kinds := [], alts := [], laidByText := true, laidKinds := [.data], laidTests := true, laidLooks := .later }
def TreePathsUptoCardSaid : Prop := Claim7.holds Tryd.pinned (.plain (OpenSpec.upto treePathsSpec)) treePathsUptoCard

/-- THE SECOND FORM's CARD OF 'sealringkeep.TreeLongs'. -/
def treeLongsUptoCard : Claim7 := { stood := { row := treeLongsUptoRow, standIns := [], harness := (true, "451f2b1b9cbfd5bf3c5043f7e71b9fc390f3fd0d7dead4fa40457500b38979da"), looks := false }, kinds := [], alts := [], laidByText := true, laidKinds := [.data], laidTests := true, laidLooks := .later }
def TreeLongsUptoCardSaid : Prop := Claim7.holds Tryd.pinned (.plain (OpenSpec.upto treeLongsSpec)) treeLongsUptoCard

/-- THE SECOND FORM's CARD OF 'sealringkeep.DrawKeys'. -/
def drawKeysUptoCard : Claim7 := { stood := { row := drawKeysUptoRow, standIns := [], harness := (true, "451f2b1b9cbfd5bf3c5043f7e71b9fc390f3fd0d7dead4fa40457500b38979da"), looks := false }, kinds := [], alts := [], laidByText := true, laidKinds := [.data], laidTests := true, laidLooks := .later }
def DrawKeysUptoCardSaid : Prop := Claim7.holds Tryd.pinned (.plain (OpenSpec.upto drawKeysSpec)) drawKeysUptoCard

/-- THE SECOND FORM's CARD OF 'sealringkeep.DrawParts'. -/
def drawPartsUptoCard : Claim7 := { stood := { row := drawPartsUptoRow, standIns := [], harness := (true, "451f2b1b9cbfd5bf3c5043f7e71b9fc390f3fd0d7dead4fa40457500b38979da"), looks := false }, kinds := [], alts := [], laidByText := true, laidKinds := [.data], laidTests := true, laidLooks := .later }
def DrawPartsUptoCardSaid : Prop := Claim7.holds Tryd.pinned (.plain (OpenSpec.upto drawPartsSpec)) drawPartsUptoCard

/-- THE SECOND FORM's CARD OF 'sealringkeep.DrawBlocks'. -/
def drawBlocksUptoCard : Claim7 := { stood := { row := drawBlocksUptoRow, standIns := [], harness := (true, "451f2b1b9cbfd5bf3c5043f7e71b9fc390f3fd0d7dead4fa40457500b38979da"), looks := false }, kinds := [], alts := [], laidByText := true, laidKinds := [.data], laidTests := true, laidLooks := .later }
def DrawBlocksUptoCardSaid : Prop := Claim7.holds Tryd.pinned (.plain (OpenSpec.upto drawBlocksSpec)) drawBlocksUptoCard

/-- THE SECOND FORM's CARD OF 'sealringkeep.DrawBelow'. -/
def drawBelowUptoCard : Claim7 := { stood := { row := drawBelowUptoRow, standIns := [], harness := (true, "451f2b1b9cbfd5bf3c5043f7e71b9fc390f3fd0d7dead4fa40457500b38979da"), looks := false }, kinds := [], alts := [], laidByText := true, laidKinds := [.data], laidTests := true, laidLooks := .later }
def DrawBelowUptoCardSaid : Prop := Claim7.holds Tryd.pinned (.plain (OpenSpec.upto drawBelowSpec)) drawBelowUptoCard

/-- THE SECOND FORM's CARD OF 'sealringkeep.PinStretch'. -/
def pinStretchUptoCard : Claim7 := { stood := { row := pinStretchUptoRow, standIns := [], harness := (true, "451f2b1b9cbfd5bf3c5043f7e71b9fc390f3fd0d7dead4fa40457500b38979da"), looks := false }, kinds := [], alts := [], laidByText := true, laidKinds := [.data], laidTests := true, laidLooks := .later }
def PinStretchUptoCardSaid : Prop := Claim7.holds Tryd.pinned (.plain (OpenSpec.upto pinStretchSpec)) pinStretchUptoCard

/-- THE SECOND FORM's CARD OF 'sealringkeep.PinLocks'. -/
def pinLocksUptoCard : Claim7 := { stood := { row := pinLocksUptoRow, standIns := [], harness := (true, "451f2b1b9cbfd5bf3c5043f7e71b9fc390f3fd0d7dead4fa40457500b38979da"), looks := false }, kinds := [], alts := [], laidByText := true, laidKinds := [.data], laidTests := true, laidLooks := .later }
def PinLocksUptoCardSaid : Prop := Claim7.holds Tryd.pinned (.plain (OpenSpec.upto pinLocksSpec)) pinLocksUptoCard

/-- THE SECOND FORM's CARD OF 'sealringkeep.PinBack'. -/
def pinBackUptoCard : Claim7 := { stood := { row := pinBackUptoRow, standIns := [], harness := (true, "451f2b1b9cbfd5bf3c5043f7e71b9fc390f3fd0d7dead4fa40457500b38979da"), looks := false }, kinds := [], alts := [], laidByText := true, laidKinds := [.data], laidTests := true, laidLooks := .later }
def PinBackUptoCardSaid : Prop := Claim7.holds Tryd.pinned (.plain (OpenSpec.upto pinBackSpec)) pinBackUptoCard

/-- THE SECOND FORM's CARD OF 'sealringkeep.PinChanges'. -/
def pinChangesUptoCard : Claim7 := { stood := { row := pinChangesUptoRow, standIns := [], harness := (true, "451f2b1b9cbfd5bf3c5043f7e71b9fc390f3fd0d7dead4fa40457500b38979da"), looks := false }, kinds := [], alts := [], laidByText := true, laidKinds := [.data], laidTests := true, laidLooks := .later }
def PinChangesUptoCardSaid : Prop := Claim7.holds Tryd.pinned (.plain (OpenSpec.upto pinChangesSpec)) pinChangesUptoCard
end Rows
end Go.Proofs.YtdhoboilpngnaaaDoor
