/- What is wide. -/
import Derived.Test.YtglbnbdeoenilaaNuBase
import Derived.Test.YtglbnbdeoenilaaLimb1
namespace Go.Proofs.Ytglbnbdeoenilaa
open Go.RowKit
set_option maxRecDepth 100000
set_option linter.unusedVariables false
theorem low_nu (a : Nat) (w : World) : Calls Try.prog 61 #[wi a] w (Ret (nu (a % T256)) w) := by
  rw [← nu_num, ← wi_wide]; exact low_all a w
theorem wide_nu (a b : Nat) (ha : a < T256) (w : World) : Calls Try.prog 58 #[nu a, nu b] w (Ret (wi (a + T256 * b)) w) := by
  rw [← nu_num, ← nu_num, ← wi_wide]; exact wide_all a b ha w
end Go.Proofs.Ytglbnbdeoenilaa
