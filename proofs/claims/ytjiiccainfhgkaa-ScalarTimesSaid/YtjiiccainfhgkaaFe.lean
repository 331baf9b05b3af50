/- The contracts of field, in the words fadd, fmul, fsub, flow. -/
import Derived.Test.YtjiiccainfhgkaaPlainA
import Derived.Test.YtjiiccainfhgkaaFieldMul
namespace Go.Proofs.Ytjiiccainfhgkaa
open Go.RowKit
set_option linter.unusedVariables false
theorem addG (a b : Nat) (ha : a < T256) (hb : b < T256) (w : World) : Calls Try.prog 65 [nu a, nu b].toArray w (Ret (nu (fadd a b)) w) := by rw [fadd_def]; exact add_f a b ha hb w
theorem subG (a b : Nat) (ha : a < T256) (hb : b < T256) (w : World) : Calls Try.prog 31 [nu a, nu b].toArray w (Ret (nu (fsub a b)) w) := by rw [fsub_def]; exact sub_f a b ha hb w
theorem mulG (a b : Nat) (ha : a < T256) (hb : b < T256) (w : World) : Calls Try.prog 58 [nu a, nu b].toArray w (Ret (nu (fmul a b)) w) := by rw [fmul_def]; exact mul_f a b ha hb w
theorem lowG (a : Nat) (ha : a < T256) (w : World) : Calls Try.prog 26 [nu a].toArray w (Ret (nu (flow a)) w) := by rw [flow_def]; exact low_f a ha w
theorem eqNu {x y : Nat} {r : Bool} (h : decide (x = y) = r) (hx : x < T256) (hy : y < T256) (w : World) : (Op.equalIn 10000 24 (nu x) (nu y)).run Try.prog w = .ok r w := by
  rw [eq_nu x y hx hy, h]
end Go.Proofs.Ytjiiccainfhgkaa
