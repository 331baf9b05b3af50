/- A row of 32 bytes that came in as an argument. -/
import Derived.Test.YtjiiccainfhgkaaEqBv
namespace Go.Proofs.Ytjiiccainfhgkaa
open Go.RowKit
set_option linter.unusedVariables false
theorem u8_wf {z : Int} (h : (Lit.int .u8 z).wf = true) : 0 ≤ z ∧ z < 256 := by
  simp [Lit.wf, IntKind.min, IntKind.max, IntKind.signed, IntKind.bits] at h
  omega
theorem bv_list {zs : List Int} (hl : zs.length = 32) (hz : ∀ z ∈ zs, (Lit.int .u8 z).wf = true) : ∃ n, n < T256 ∧ Value.agg (zs.map (Value.int .u8)).toArray = bv n := by
  have hf : ∀ j : Nat, ((zs[j]?.getD (0 : Int)).toNat) < 256 := fun j => by
    cases h : zs[j]? with
    | none => decide
    | some z =>
      have := u8_wf (hz z (List.mem_of_getElem? h))
      simp only [Option.getD_some]
      omega
  obtain ⟨n, hn, e⟩ := byteCells_bv (fun j : Nat => (zs[j]?.getD (0 : Int)).toNat) hf
  refine ⟨n, hn, ?_⟩
  show _ = Value.agg (bytesC n)
  rw [← e]
  congr 1
  unfold byteCells
  congr 1
  apply List.ext_getElem?
  intro j
  by_cases hj : j < 32
  · rw [List.getElem?_map, List.getElem?_map, List.getElem?_range hj, List.getElem?_eq_getElem (by omega)]
    have := u8_wf (hz zs[j] (List.getElem_mem (by omega)))
    simp only [Option.map_some, Option.some.injEq, Value.int.injEq, true_and]
    rw [List.getElem?_eq_getElem (by omega), Option.getD_some]
    omega
  · rw [List.getElem?_eq_none (by simp; omega), List.getElem?_eq_none (by simp; omega)]
theorem open_b32 {H : Type} {enc : TypeId × Value → H} {P : Program} {w : World} {base : Nat} {spare : Nat → Bool} {held : Bool} {t e : TypeId} {r : Reach} {b0 : Nat} {v : Value} {d : DataW H} {p : List MemPlace} (ht : P.underlying t = some (.array 32 e)) (he : P.underlying e = some (.int .u8)) (hce : P.cellsOf e = 1) (hct : P.cellsOf t = 32)
    (hv : Value.okWide P w r b0 t v) (h : DataW.Trod enc P w base spare held t v d p) : ∃ n, n < T256 ∧ v = bv n := by
  obtain ⟨zs, hl, rfl, hz⟩ := open_array ht he hce hct hv h
  exact bv_list hl hz
end Go.Proofs.Ytjiiccainfhgkaa
