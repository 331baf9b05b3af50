/- The table of the roots: what a row's list gives, and a world for the witness. -/
import Derived.Test.YtdhoboilpngnaaaDoorRows
import Derived.Test.YtdhoboilpngnaaaDoorShaB
import Derived.Lib.LaidTab
import Derived.Deep.DeepHandedRow
namespace Go.Proofs.YtdhoboilpngnaaaDoor
open Go.RowKit
theorem gTab : Tryd.prog.globalNamed "sealring/hash.primeRoots" = some 0 := by kernel_rfl
theorem gTabType : (Tryd.prog.globals[0]?).map (·.type) = some 106 := by kernel_rfl
theorem tab_of {W : World} (h : Lib.TabIs Tryd.prog W "sealring/hash.primeRoots" .u32 roots) : Tab W := fun i hi => h.cell gTab i hi
noncomputable def laidWorld (os : Os) : World :=
  { World.holding Tryd.prog os ⟨#[], #[], []⟩ with heap := (World.holding Tryd.prog os ⟨#[], #[], []⟩).heap.modify 0 fun
      | .cells _ t frozen => .cells (iw roots) t frozen
      | o => o }
end Go.Proofs.YtdhoboilpngnaaaDoor
