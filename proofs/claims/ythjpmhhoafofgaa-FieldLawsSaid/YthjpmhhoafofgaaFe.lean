/- The contracts of field, in the words fadd, fmul, fsub, flow. -/
import Derived.Test.YthjpmhhoafofgaaFePlain
import Derived.Test.YthjpmhhoafofgaaFieldMul
namespace Go.Proofs.Ythjpmhhoafofgaa
open Go.RowKit
set_option linter.unusedVariables false
section
unseal fadd fmul fsub flow
theorem addG (a b : Nat) (ha : a < T256) (hb : b < T256) (w : World) : Calls Try.prog 38 [nu a, nu b].toArray w (Ret (nu (fadd a b)) w) := add_f a b ha hb w
theorem subG (a b : Nat) (ha : a < T256) (hb : b < T256) (w : World) : Calls Try.prog 39 [nu a, nu b].toArray w (Ret (nu (fsub a b)) w) := sub_f a b ha hb w
theorem mulG (a b : Nat) (ha : a < T256) (hb : b < T256) (w : World) : Calls Try.prog 34 [nu a, nu b].toArray w (Ret (nu (fmul a b)) w) := mul_f a b ha hb w
theorem lowG (a : Nat) (ha : a < T256) (w : World) : Calls Try.prog 35 [nu a].toArray w (Ret (nu (flow a)) w) := low_f a ha w
end
theorem eqNu {x y : Nat} {r : Bool} (h : decide (x = y) = r) (hx : x < T256) (hy : y < T256) (w : World) : (Op.equalIn 10000 24 (nu x) (nu y)).run Try.prog w = .ok r w := by
  rw [eq_nu x y hx hy, h]
end Go.Proofs.Ythjpmhhoafofgaa
