/- What a [][]uint8 is that came in. -/
import Derived.Test.YtkbgkobbadjpnaaDoorSeeAll
namespace Go.Proofs.YtkbgkobbadjpnaaDoor
open Go.RowKit Go.ChangeShapes Go.WideShapes
set_option linter.unusedVariables false
set_option maxRecDepth 100000 in
theorem open_bll {H : Type} {enc : TypeId × Value → H} {W : World} {r : Reach} {b0 : Nat} {v : Value} {d : DataW H} {q : List MemPlace} (hv : Value.okWide Tryd.prog W r b0 53 v) (h : DataW.Trod enc Tryd.prog W 0 (fun _ => true) true 53 v d q) :
    ∃ x : Nat × List Value × List (List Nat), Cll W v x.1 x.2.1 x.2.2 ∧ x.2.2.length + (x.2.2.map List.length).sum + 1 ≤ Rows.uptoBulk d := open_bll' (t := 53) (e := 23) (e' := 5) (by kernel_rfl) (by kernel_rfl) (by kernel_rfl) (by kernel_rfl) (by kernel_rfl) hv h
end Go.Proofs.YtkbgkobbadjpnaaDoor
