/- field.P, Low, Add, Sub. -/
import Derived.Test.YtpcockfnljdilaaFieldPlain
import Derived.Test.YtpcockfnljdilaaNuLit
namespace Go.Proofs.Ytpcockfnljdilaa
open Go.RowKit
set_option linter.unusedVariables false
set_option linter.unusedSimpArgs false
set_option maxRecDepth 8000
theorem PP_val : Value.agg [.int .u64 18446744073709551597, .int .u64 18446744073709551615, .int .u64 18446744073709551615, .int .u64 9223372036854775807].toArray = nu PP := by
  rw [← nu_num]
  have e0 : limb PP 0 = 18446744073709551597 := by decide +kernel
  have e1 : limb PP 1 = 18446744073709551615 := by decide +kernel
  have e2 : limb PP 2 = 18446744073709551615 := by decide +kernel
  have e3 : limb PP 3 = 9223372036854775807 := by decide +kernel
  unfold num
  rw [e0, e1, e2, e3]
end Go.Proofs.Ytpcockfnljdilaa
