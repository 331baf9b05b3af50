/- What Shift, Bit and Len answer. -/
import Derived.Test.YtglbnbdeoenilaaNuBase
import Derived.Test.YtglbnbdeoenilaaBitLaws
namespace Go.Proofs.Ytglbnbdeoenilaa
open Go.RowKit
set_option linter.unusedVariables false
theorem shl_nu (a n : Nat) (ha : a < T256) (hn : n ≤ 255) (w : World) : Calls Try.prog 66 #[nu a, .int .i64 n] w (Ret (nu (a * 2 ^ n % T256)) w) := by
  rw [← nu_num, ← nu_num]; exact shl_all a n ha hn w
theorem shr_nu (a m : Nat) (ha : a < T256) (h0 : 0 < m) (hm : m ≤ 255) (w : World) : Calls Try.prog 66 #[nu a, .int .i64 (-(m : Int))] w (Ret (nu (a / 2 ^ m)) w) := by
  rw [← nu_num, ← nu_num]; exact shr_all a m ha h0 hm w
end Go.Proofs.Ytglbnbdeoenilaa
