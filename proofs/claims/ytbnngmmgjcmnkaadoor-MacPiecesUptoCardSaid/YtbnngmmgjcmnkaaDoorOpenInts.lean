/- What a []int is that came in. -/
import Derived.Test.YtbnngmmgjcmnkaaDoorReads2
namespace Go.Proofs.YtbnngmmgjcmnkaaDoor
open Go.RowKit Go.ChangeShapes Go.WideShapes
set_option linter.unusedVariables false
set_option maxRecDepth 100000 in
theorem open_ints {H : Type} {enc : TypeId × Value → H} {W : World} {r : Reach} {b0 : Nat} {v : Value} {d : DataW H} {q : List MemPlace} (hv : Value.okWide Tryd.prog W r b0 23 v) (h : DataW.Trod enc Tryd.prog W 0 (fun _ => true) true 23 v d q) :
    ∃ zs : List Int, (Cs W v zs.length (zs.map (Value.int .i64)) ∧ ∀ z ∈ zs, -9223372036854775808 ≤ z ∧ z < 9223372036854775808) ∧ zs.length + 1 ≤ Rows.uptoBulk d := open_ints' (t := 23) (e := 3) (by kernel_rfl) (by kernel_rfl) (by kernel_rfl) hv h
end Go.Proofs.YtbnngmmgjcmnkaaDoor
