/- Closed facts of the translation that hang on its long word of the order of beginnings: read once, by the signs of the word. The table of the roots: what a row's list gives, and a world for the witness. A row of 32 bytes that came in as an argument. -/
import Derived.Test.YtkbgkobbadjpnaaDoorProg
import Derived.JoinedOf
import Derived.WalkKit
import Derived.Test.YtkbgkobbadjpnaaDoorRows
import Derived.Test.YtkbgkobbadjpnaaDoorShaAll
import Derived.Lib.LaidTab
import Derived.Deep.DeepHandedRow
import Derived.Test.YtkbgkobbadjpnaaDoorPtAll
namespace Go.Proofs.YtkbgkobbadjpnaaDoor
set_option maxRecDepth 100000
theorem mayEnter_of {P : Program} {l : List Char} {rest : List (List Char)} (h0 : P.initOrder = String.ofList l) (h : behindMainWord (wordsSigns l) = "cut".toList :: rest) (hs : stripLifts liftWords ("cut".toList :: rest) = ([], "cut".toList :: rest)) (h1 : P.laysLater = false) (h2 : P.bearsReflect = false) (h3 : P.doorFits [] = true) : P.mayEnter = true := by
  unfold Program.mayEnter
  rw [h0, String.toList_ofList, h]
  generalize "cut".toList = c at *
  simp only [hs, h1, h2, h3]
  simp
theorem headLifts_of {P : Program} {l : List Char} {rest : List (List Char)} (h0 : P.initOrder = String.ofList l) (h : behindMainWord (wordsSigns l) = "cut".toList :: rest) (hs : stripLifts liftWords ("cut".toList :: rest) = ([], "cut".toList :: rest)) : P.headLifts = [] := by
  unfold Program.headLifts
  rw [h0, String.toList_ofList, h, hs]
  simp
theorem liftsFinal_of {P : Program} {l : List Char} {rest : List (List Char)} (h0 : P.initOrder = String.ofList l) (h : behindMainWord (wordsSigns l) = "cut".toList :: rest) (hs : stripLifts liftWords ("cut".toList :: rest) = ([], "cut".toList :: rest)) : P.liftsFinal = false := by
  unfold Program.liftsFinal
  rw [headLifts_of h0 h hs, h0, String.toList_ofList, h]
  simp
theorem make_of {P : Program} {l : List Char} {rest : List (List Char)} (h0 : P.initOrder = String.ofList l) (h : behindMainWord (wordsSigns l) = "cut".toList :: rest) : P.make = some .cut := by
  unfold Program.make
  rw [h0, String.toList_ofList, h]
  have e1 : ("cut".toList == "gc".toList || "cut".toList == "spec".toList) = false := by decide +kernel
  simp only [e1]
  simp
theorem word0 : ∃ (l : List Char), Tryd.prog.initOrder = String.ofList l ∧ behindMainWord (wordsSigns l) = "cut".toList :: (behindMainWord (wordsSigns l)).tail ∧ stripLifts liftWords ("cut".toList :: (behindMainWord (wordsSigns l)).tail) = ([], "cut".toList :: (behindMainWord (wordsSigns l)).tail) := ⟨_, rfl, by kernel_rfl, by kernel_rfl⟩
theorem word1 : ∃ (l : List Char) (rest : List (List Char)), Tryd.prog.initOrder = String.ofList l ∧ behindMainWord (wordsSigns l) = "cut".toList :: rest ∧ stripLifts liftWords ("cut".toList :: rest) = ([], "cut".toList :: rest) := by
  obtain ⟨l, h⟩ := word0
  exact ⟨l, _, h⟩
theorem mayEnters : Tryd.prog.mayEnter = true := by
  obtain ⟨l, r, h0, h, hs⟩ := word1
  exact mayEnter_of h0 h hs (by kernel_rfl) (by kernel_rfl) (by kernel_rfl)
theorem liftsNone : Tryd.prog.liftsFinal = false := by
  obtain ⟨l, r, h0, h, hs⟩ := word1
  exact liftsFinal_of h0 h hs
theorem makeCut : Tryd.prog.make = some .cut := by
  obtain ⟨l, r, h0, h, hs⟩ := word1
  exact make_of h0 h
end Go.Proofs.YtkbgkobbadjpnaaDoor
namespace Go.Proofs.YtkbgkobbadjpnaaDoor
open Go.RowKit
theorem gTab : Tryd.prog.globalNamed "sealring/hash.primeRoots" = some 0 := by kernel_rfl
theorem gTabType : (Tryd.prog.globals[0]?).map (·.type) = some 127 := by kernel_rfl
theorem tab_of {W : World} (h : Lib.TabIs Tryd.prog W "sealring/hash.primeRoots" .u32 roots) : Tab W := fun i hi => h.cell gTab i hi
noncomputable def laidWorld (os : Os) : World :=
  { World.holding Tryd.prog os ⟨#[], #[], []⟩ with heap := (World.holding Tryd.prog os ⟨#[], #[], []⟩).heap.modify 0 fun
      | .cells _ t frozen => .cells (iw roots) t frozen
      | o => o }
end Go.Proofs.YtkbgkobbadjpnaaDoor
namespace Go.Proofs.YtkbgkobbadjpnaaDoor
open Go.RowKit
set_option linter.unusedVariables false
theorem u8_wf {z : Int} (h : (Lit.int .u8 z).wf = true) : 0 ≤ z ∧ z < 256 := by
  simp [Lit.wf, IntKind.min, IntKind.max, IntKind.signed, IntKind.bits] at h
  omega
theorem bv_list {zs : List Int} (hl : zs.length = 32) (hz : ∀ z ∈ zs, (Lit.int .u8 z).wf = true) : ∃ n, n < T256 ∧ Value.agg (zs.map (Value.int .u8)).toArray = bv n := by
  have hf : ∀ j : Nat, ((zs[j]?.getD (0 : Int)).toNat) < 256 := fun j => by
    cases h : zs[j]? with
    | none => decide
    | some z =>
      have := u8_wf (hz z (List.mem_of_getElem? h))
      simp only [Option.getD_some]
      omega
  obtain ⟨n, hn, e⟩ := byteCells_bv (fun j : Nat => (zs[j]?.getD (0 : Int)).toNat) hf
  refine ⟨n, hn, ?_⟩
  show _ = Value.agg (bytesC n)
  rw [← e]
  congr 1
  unfold byteCells
  congr 1
  apply List.ext_getElem?
  intro j
  by_cases hj : j < 32
  · rw [List.getElem?_map, List.getElem?_map, List.getElem?_range hj, List.getElem?_eq_getElem (by omega)]
    have := u8_wf (hz zs[j] (List.getElem_mem (by omega)))
    simp only [Option.map_some, Option.some.injEq, Value.int.injEq, true_and]
    rw [List.getElem?_eq_getElem (by omega), Option.getD_some]
    omega
  · rw [List.getElem?_eq_none (by simp; omega), List.getElem?_eq_none (by simp; omega)]
theorem open_b32 {H : Type} {enc : TypeId × Value → H} {P : Program} {w : World} {base : Nat} {spare : Nat → Bool} {held : Bool} {t e : TypeId} {r : Reach} {b0 : Nat} {v : Value} {d : DataW H} {p : List MemPlace} (ht : P.underlying t = some (.array 32 e)) (he : P.underlying e = some (.int .u8)) (hce : P.cellsOf e = 1) (hct : P.cellsOf t = 32)
    (hv : Value.okWide P w r b0 t v) (h : DataW.Trod enc P w base spare held t v d p) : ∃ n, n < T256 ∧ v = bv n := by
  obtain ⟨zs, hl, rfl, hz⟩ := open_array ht he hce hct hv h
  exact bv_list hl hz
end Go.Proofs.YtkbgkobbadjpnaaDoor
