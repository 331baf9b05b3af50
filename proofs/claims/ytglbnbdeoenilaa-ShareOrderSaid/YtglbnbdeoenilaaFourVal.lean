/- A number out of its four words. -/
import Derived.Test.YtglbnbdeoenilaaRow
namespace Go.Proofs.Ytglbnbdeoenilaa
open Go.RowKit
set_option linter.unusedVariables false
theorem four_val (a b c d n : Nat) (h0 : limb n 0 = (a : Int)) (h1 : limb n 1 = (b : Int)) (h2 : limb n 2 = (c : Int)) (h3 : limb n 3 = (d : Int)) : Value.agg [.int .u64 a, .int .u64 b, .int .u64 c, .int .u64 d].toArray = nu n := by
  rw [← nu_num, num, h0, h1, h2, h3]
end Go.Proofs.Ytglbnbdeoenilaa
