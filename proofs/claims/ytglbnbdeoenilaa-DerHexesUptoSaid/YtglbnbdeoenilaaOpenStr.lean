/- What a string is that came in. -/
import Derived.Test.YtglbnbdeoenilaaBAr
import Derived.Test.YtglbnbdeoenilaaReads
import Derived.ChangeMaps5
namespace Go.Proofs.Ytglbnbdeoenilaa
open Go.RowKit Go.ChangeShapes Go.WideShapes
set_option linter.unusedVariables false
/-- A string of these bytes. -/
structure StI (v : Value) (s : List Nat) : Prop where
  eq : v = str s
  by' : ∀ x ∈ s, x < 256
theorem open_str {P : Program} {t : TypeId} {H : Type} {enc : TypeId × Value → H} {W : World} {r : Reach} {b0 : Nat} {v : Value} {d : DataW H} {q : List MemPlace} (ht : P.underlying t = some .string) (hv : Value.okWide P W r b0 t v) (h : DataW.Trod enc P W 0 (fun _ => true) true t v d q) :
    ∃ s : List Nat, StI v s ∧ s.length + 1 ≤ Rows.uptoBulk d := by
  obtain ⟨a, rfl, rfl, _, _⟩ := Go.ChangeMaps.open_string ht hv h
  obtain ⟨p, rfl, hp⟩ := str_of a
  refine ⟨p, ⟨rfl, hp⟩, ?_⟩
  have hl : (bAr p).data.toList.length = p.length := by simp [bAr]
  simp only [Rows.uptoBulk]
  omega
end Go.Proofs.Ytglbnbdeoenilaa
