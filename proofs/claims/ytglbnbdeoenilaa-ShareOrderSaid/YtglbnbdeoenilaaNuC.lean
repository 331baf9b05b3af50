/- What Cmp answers. -/
import Derived.Test.YtglbnbdeoenilaaNuBase
import Derived.Test.YtglbnbdeoenilaaCmp
namespace Go.Proofs.Ytglbnbdeoenilaa
open Go.RowKit
set_option linter.unusedVariables false
theorem cmp_nu (a b : Nat) (ha : a < T256) (hb : b < T256) (w : World) : Calls Try.prog 41 #[nu a, nu b] w (Ret (.int .i64 (cmpI a b)) w) := by
  rw [← nu_num, ← nu_num]; exact cmp_all a b ha hb w
end Go.Proofs.Ytglbnbdeoenilaa
