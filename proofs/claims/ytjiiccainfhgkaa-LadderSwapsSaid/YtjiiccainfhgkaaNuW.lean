/- What is wide. -/
import Derived.Test.YtjiiccainfhgkaaNuBase
import Derived.Test.YtjiiccainfhgkaaLimb1
namespace Go.Proofs.Ytjiiccainfhgkaa
open Go.RowKit
set_option linter.unusedVariables false
theorem low_nu (a : Nat) (w : World) : Calls Try.prog 30 #[wi a] w (Ret (nu (a % T256)) w) := by
  rw [← nu_num, ← wi_wide]; exact low_all a w
theorem high_nu (a : Nat) (w : World) : Calls Try.prog 29 #[wi a] w (Ret (nu (a / T256)) w) := by
  rw [← nu_num, ← wi_wide]; exact high_all a w
theorem wide_nu (a b : Nat) (ha : a < T256) (w : World) : Calls Try.prog 50 #[nu a, nu b] w (Ret (wi (a + T256 * b)) w) := by
  rw [← nu_num, ← nu_num, ← wi_wide]; exact wide_all a b ha w
end Go.Proofs.Ytjiiccainfhgkaa
