/- The package hash, walked: press. -/
import Derived.Test.YtglbnbdeoenilaaShaA
import Derived.Test.YtglbnbdeoenilaaSeg
import Derived.Test.YtglbnbdeoenilaaSl
namespace Go.Proofs.Ytglbnbdeoenilaa
open Go.RowKit
set_option linter.unusedVariables false
set_option maxRecDepth 100000
set_option linter.unusedSimpArgs false
def iw (l : List Int) : Array Value := (l.map (Value.int .u32)).toArray
theorem iw_get {l : List Int} {i : Nat} (h : i < l.length) : (iw l)[i]? = some (.int .u32 (l.getD i 0)) := by simp [iw, h, List.getD]
theorem iw_put (l : List Int) (i : Nat) (x : Int) : putC (iw l) i (.int .u32 x) = iw (l.set i x) := by simp [iw, putC]
theorem iw_size (l : List Int) : (iw l).size = l.length := by simp [iw]
theorem iw_one (l : List Int) : (iw l).all (·.oneCell') = true := by simp [iw, Value.oneCell']
theorem seg_iw {n : Nat} {l : List Int} (h : l.length = n) : SegL (iw l) n := ⟨by rw [iw_size, h], iw_one l⟩
/-- The table of the roots stands in memory. -/
def Tab (w : World) : Prop := ∀ i, i < 64 → w.cell? ⟨0, i, none⟩ = some (.int .u32 (roots.getD i 0))
theorem Tab.below {w w' : World} (h : Tab w) (hb : Below w.heap.size w w') : Tab w' := fun i hi => by
  have := h i hi
  rw [← this]
  exact hb.cell (World.block_lt_of_cell? _ _ this)
class WL (l : List Int) (n : outParam Nat) : Prop where
  out : l.length = n
instance {l : List Int} {n : Nat} [h : WL l n] : Cells (iw l) n := ⟨by rw [iw_size, h.out], iw_one l⟩
instance {l : List Int} {n : Nat} {i : Nat} {x : Int} [h : WL l n] : WL (l.set i x) n := ⟨by rw [List.length_set, h.out]⟩
instance (b : List Nat) (t : Nat) : WL (schedI b t) 64 := ⟨schedI_len b t⟩
instance {n : Nat} {x : Int} : WL (List.replicate n x) n := ⟨by simp⟩
instance {l : List Int} {i : Nat} {x : Int} : PutC (iw l) i (.int .u32 x) (iw (l.set i x)) := ⟨iw_put l i x⟩
end Go.Proofs.Ytglbnbdeoenilaa
