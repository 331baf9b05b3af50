/- What a [32]uint8 is that came in, as a list of bytes. -/
import Derived.Test.YtdhoboilpngnaaaDoorOpenArr
namespace Go.Proofs.YtdhoboilpngnaaaDoor
open Go.RowKit Go.ChangeShapes Go.WideShapes
set_option linter.unusedVariables false
set_option maxRecDepth 100000 in
theorem open_b32l {H : Type} {enc : TypeId × Value → H} {W : World} {r : Reach} {b0 : Nat} {v : Value} {d : DataW H} {q : List MemPlace} (hv : Value.okWide Tryd.prog W r b0 30 v) (h : DataW.Trod enc Tryd.prog W 0 (fun _ => true) true 30 v d q) :
    ∃ d : List Nat, ArB 32 v d ∧ True := open_arrl (e := 5) (by kernel_rfl) (by kernel_rfl) (by kernel_rfl) (by kernel_rfl) hv h
end Go.Proofs.YtdhoboilpngnaaaDoor
