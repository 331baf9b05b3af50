/- What a [32]uint8 is that came in, as a list of bytes. -/
import Derived.Test.YtdmmbkhnhfcmcaaReads2
import Derived.Test.YtdmmbkhnhfcmcaaOpenAll
import Derived.Test.YtdmmbkhnhfcmcaaShaAll
namespace Go.Proofs.Ytdmmbkhnhfcmcaa
open Go.RowKit Go.ChangeShapes Go.WideShapes
set_option linter.unusedVariables false
/-- An array of n bytes. -/
structure ArB (n : Nat) (v : Value) (d : List Nat) : Prop where
  eq : v = .agg (bys d)
  len : d.length = n
  by' : ∀ x ∈ d, x < 256
theorem open_arrl {P : Program} {t e : TypeId} {n : Nat} {H : Type} {enc : TypeId × Value → H} {W : World} {r : Reach} {b0 : Nat} {v : Value} {d : DataW H} {q : List MemPlace} (ht : P.underlying t = some (.array n e)) (he : P.underlying e = some (.int .u8)) (hce : P.cellsOf e = 1) (hct : P.cellsOf t = n)
    (hv : Value.okWide P W r b0 t v) (h : DataW.Trod enc P W 0 (fun _ => true) true t v d q) : ∃ d : List Nat, ArB n v d ∧ True := by
  obtain ⟨zs, h1, h2, h3⟩ := open_array ht he hce hct hv h
  refine ⟨zs.map Int.toNat, ⟨?_, by rw [List.length_map, h1], ?_⟩, trivial⟩
  · rw [h2, bys, bl, List.map_map]
    congr 2
    refine List.map_congr_left fun z hz => ?_
    have := h3 z hz
    simp [Lit.wf, IntKind.min, IntKind.max, IntKind.signed, IntKind.bits] at this
    show Value.int .u8 z = Value.int .u8 ((z.toNat : Nat) : Int)
    rw [Int.toNat_of_nonneg this.1]
  · intro x hx
    obtain ⟨z, hz, rfl⟩ := List.mem_map.1 hx
    have := h3 z hz
    simp [Lit.wf, IntKind.min, IntKind.max, IntKind.signed, IntKind.bits] at this
    omega
end Go.Proofs.Ytdmmbkhnhfcmcaa
