/- Equality told by a fact about the values; a slice against nil. -/
import Derived.Test.YtglbnbdeoenilaaOwnOps
namespace Go.Proofs.Ytglbnbdeoenilaa
open Go.RowKit
set_option linter.unusedVariables false
section
variable {X : Cx} {s : Slots} {l : Blks} {o : Oper}
theorem rd_eqlG {t yt : Nat} {x y : Operand} {p : Option Addr} {n c : Nat} {v : Value} {r : Bool} (ho : o.op = .binOp .eql t x y yt) (hx : val s x = some (.slice p n c)) (hy : val s y = some v)
    (q : ∀ w : World, (binOp .eql t (.slice p n c) v).run X.P w = .ok (.bool r) w) : RdV X s l o (.bool r) :=
  rd_val fun e w he hm => by
    simp only [execOp, ho, he.eval hx, he.eval hy, eqGuard]
    simp [q w]
theorem rd_neqG {t yt : Nat} {x y : Operand} {p : Option Addr} {n c : Nat} {v : Value} {r : Bool} (ho : o.op = .binOp .neq t x y yt) (hx : val s x = some (.slice p n c)) (hy : val s y = some v)
    (q : ∀ w : World, (binOp .neq t (.slice p n c) v).run X.P w = .ok (.bool r) w) : RdV X s l o (.bool r) :=
  rd_val fun e w he hm => by
    simp only [execOp, ho, he.eval hx, he.eval hy, eqGuard]
    simp [q w]
end
theorem sl_nil {P : Program} {t e : Nat} (h : P.underlying t = some (.slice e)) {p : Option Addr} {n c : Nat} (w : World) : (binOp .eql t (.slice p n c) (.slice none 0 0)).run P w = .ok (.bool p.isNone) w := by
  refine run_eql (r := p.isNone) w rfl ?_
  rw [show (10000 : Nat) = 9999 + 1 from rfl, Op.equalIn, Sem.run_bind, run_underlying h]
  cases p <;> rfl
theorem sl_nonil {P : Program} {t e : Nat} (h : P.underlying t = some (.slice e)) {p : Option Addr} {n c : Nat} (w : World) : (binOp .neq t (.slice p n c) (.slice none 0 0)).run P w = .ok (.bool (!p.isNone)) w := by
  refine run_neq (r := p.isNone) w rfl ?_
  rw [show (10000 : Nat) = 9999 + 1 from rfl, Op.equalIn, Sem.run_bind, run_underlying h]
  cases p <;> rfl
end Go.Proofs.Ytglbnbdeoenilaa
