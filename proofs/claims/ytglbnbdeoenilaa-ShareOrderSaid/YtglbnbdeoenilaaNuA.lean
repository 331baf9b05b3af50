/- What Add, Sub, Mul and equality of numbers answer. -/
import Derived.Test.YtglbnbdeoenilaaNuBase
import Derived.Test.YtglbnbdeoenilaaAddSub
import Derived.Test.YtglbnbdeoenilaaMul
namespace Go.Proofs.Ytglbnbdeoenilaa
open Go.RowKit
set_option linter.unusedVariables false
theorem add_nu (a b : Nat) (ha : a < T256) (hb : b < T256) (w : World) : Calls Try.prog 45 #[nu a, nu b] w (Ret (.tuple #[nu ((a + b) % T256), .int .u64 (((a + b) / T256 : Nat) : Int)]) w) := by
  rw [← nu_num, ← nu_num, ← nu_num]; exact add_num a b ha hb w
theorem sub_nu (a b : Nat) (ha : a < T256) (hb : b < T256) (w : World) : Calls Try.prog 47 #[nu a, nu b] w (Ret (.tuple #[nu ((a + T256 - b) % T256), .int .u64 (((if a < b then 1 else 0 : Nat)) : Int)]) w) := by
  rw [← nu_num, ← nu_num, ← nu_num, show ((if a < b then 1 else 0 : Nat) : Int) = if a < b then 1 else 0 by split <;> rfl]; exact sub_num a b ha hb w
theorem mul_nu (a b : Nat) (ha : a < T256) (hb : b < T256) (w : World) : Calls Try.prog 44 #[nu a, nu b] w (Ret (wi (a * b)) w) := by
  rw [← nu_num, ← nu_num, ← wi_wide]; exact mul_all a b ha hb w
theorem eq_nu (a b : Nat) (ha : a < T256) (hb : b < T256) (w : World) : (Op.equalIn 10000 33 (nu a) (nu b)).run Try.prog w = .ok (decide (a = b)) w := by
  rw [← nu_num, ← nu_num]; exact eql_num a b ha hb w
theorem eqNu {x y : Nat} {r : Bool} (h : decide (x = y) = r) (hx : x < T256) (hy : y < T256) (w : World) : (Op.equalIn 10000 33 (nu x) (nu y)).run Try.prog w = .ok r w := by
  rw [eq_nu x y hx hy, h]
end Go.Proofs.Ytglbnbdeoenilaa
