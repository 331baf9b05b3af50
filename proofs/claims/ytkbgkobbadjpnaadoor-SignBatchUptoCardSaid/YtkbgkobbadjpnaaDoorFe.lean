/- The contracts of field, in the words fadd, fmul, fsub, flow. -/
import Derived.Test.YtkbgkobbadjpnaaDoorPlainA
import Derived.Test.YtkbgkobbadjpnaaDoorFieldMul
namespace Go.Proofs.YtkbgkobbadjpnaaDoor
open Go.RowKit
set_option linter.unusedVariables false
theorem addG (a b : Nat) (ha : a < T256) (hb : b < T256) (w : World) : Calls Tryd.prog 72 [nu a, nu b].toArray w (Ret (nu (fadd a b)) w) := by rw [fadd_def]; exact add_f a b ha hb w
theorem subG (a b : Nat) (ha : a < T256) (hb : b < T256) (w : World) : Calls Tryd.prog 71 [nu a, nu b].toArray w (Ret (nu (fsub a b)) w) := by rw [fsub_def]; exact sub_f a b ha hb w
theorem mulG (a b : Nat) (ha : a < T256) (hb : b < T256) (w : World) : Calls Tryd.prog 70 [nu a, nu b].toArray w (Ret (nu (fmul a b)) w) := by rw [fmul_def]; exact mul_f a b ha hb w
theorem lowG (a : Nat) (ha : a < T256) (w : World) : Calls Tryd.prog 69 [nu a].toArray w (Ret (nu (flow a)) w) := by rw [flow_def]; exact low_f a ha w
end Go.Proofs.YtkbgkobbadjpnaaDoor
