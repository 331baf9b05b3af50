/- Pointers against nil. -/
import Derived.Test.YtglbnbdeoenilaaLwDraw
namespace Go.Proofs.Ytglbnbdeoenilaa
open Go.RowKit
set_option linter.unusedVariables false
set_option linter.unusedSimpArgs false
section
variable {X : Cx} {s : Slots} {l : Blks} {o : Oper}
theorem rd_eqlP {t yt n : Nat} {x y : Operand} (ho : o.op = .binOp .eql t x y yt) (hx : val s x = some (ptr n)) (hy : val s y = some (.pointer none))
    (q : ∀ w : World, (Op.equalIn 10000 t (ptr n) (.pointer none)).run X.P w = .ok false w) (hg : X.P.eqGuardType X.P.depth t = false := by kernel_rfl) : RdV X s l o (.bool false) :=
  rd_val fun e w he hm => by
    simp only [execOp, ho, he.eval hx, he.eval hy, eqGuard]
    simp [run_eql w rfl (q w), hg]
theorem rd_neqP {t yt n : Nat} {x y : Operand} (ho : o.op = .binOp .neq t x y yt) (hx : val s x = some (ptr n)) (hy : val s y = some (.pointer none))
    (q : ∀ w : World, (Op.equalIn 10000 t (ptr n) (.pointer none)).run X.P w = .ok false w) (hg : X.P.eqGuardType X.P.depth t = false := by kernel_rfl) : RdV X s l o (.bool true) :=
  rd_val fun e w he hm => by
    simp only [execOp, ho, he.eval hx, he.eval hy, eqGuard]
    simp [run_neq w rfl (q w), hg]
theorem rd_eqlPN {t yt : Nat} {x y : Operand} (ho : o.op = .binOp .eql t x y yt) (hx : val s x = some (.pointer none)) (hy : val s y = some (.pointer none))
    (q : ∀ w : World, (Op.equalIn 10000 t (.pointer none) (.pointer none)).run X.P w = .ok true w) (hg : X.P.eqGuardType X.P.depth t = false := by kernel_rfl) : RdV X s l o (.bool true) :=
  rd_val fun e w he hm => by
    simp only [execOp, ho, he.eval hx, he.eval hy, eqGuard]
    simp [run_eql w rfl (q w), hg]
end
end Go.Proofs.Ytglbnbdeoenilaa
