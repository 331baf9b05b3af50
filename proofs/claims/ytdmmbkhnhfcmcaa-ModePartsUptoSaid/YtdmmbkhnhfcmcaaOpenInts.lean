/- What a []int is that came in. -/
import Derived.Test.YtdmmbkhnhfcmcaaReads2
namespace Go.Proofs.Ytdmmbkhnhfcmcaa
open Go.RowKit Go.ChangeShapes Go.WideShapes
set_option linter.unusedVariables false
set_option maxRecDepth 100000 in
theorem open_ints {H : Type} {enc : TypeId × Value → H} {W : World} {r : Reach} {b0 : Nat} {v : Value} {d : DataW H} {q : List MemPlace} (hv : Value.okWide Try.prog W r b0 45 v) (h : DataW.Trod enc Try.prog W 0 (fun _ => true) true 45 v d q) :
    ∃ zs : List Int, (Cs W v zs.length (zs.map (Value.int .i64)) ∧ ∀ z ∈ zs, -9223372036854775808 ≤ z ∧ z < 9223372036854775808) ∧ zs.length + 1 ≤ Rows.uptoBulk d := open_ints' (t := 45) (e := 3) (by kernel_rfl) (by kernel_rfl) (by kernel_rfl) hv h
end Go.Proofs.Ytdmmbkhnhfcmcaa
