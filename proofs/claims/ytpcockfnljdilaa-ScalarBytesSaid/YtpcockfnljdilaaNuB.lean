/- What Shift, Bit and Len answer. -/
import Derived.Test.YtpcockfnljdilaaNuBase
import Derived.Test.YtpcockfnljdilaaBitLaws
namespace Go.Proofs.Ytpcockfnljdilaa
open Go.RowKit
set_option linter.unusedVariables false
theorem shl_nu (a n : Nat) (ha : a < T256) (hn : n ≤ 255) (w : World) : Calls Try.prog 59 #[nu a, .int .i64 n] w (Ret (nu (a * 2 ^ n % T256)) w) := by
  rw [← nu_num, ← nu_num]; exact shl_all a n ha hn w
theorem shr_nu (a m : Nat) (ha : a < T256) (h0 : 0 < m) (hm : m ≤ 255) (w : World) : Calls Try.prog 59 #[nu a, .int .i64 (-(m : Int))] w (Ret (nu (a / 2 ^ m)) w) := by
  rw [← nu_num, ← nu_num]; exact shr_all a m ha h0 hm w
theorem len_nu (a : Nat) (ha : a < T256) (w : World) : Calls Try.prog 33 #[nu a] w (Ret (.int .i64 (blen a : Nat)) w) := by
  rw [← nu_num]; exact len_all a ha w
end Go.Proofs.Ytpcockfnljdilaa
