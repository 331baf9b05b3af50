/- ScalarBytes: the walk. -/
import Derived.Test.YtpcockfnljdilaaScalarBytesA1
import Derived.Test.YtpcockfnljdilaaScalarBytesA2
import Derived.Test.YtpcockfnljdilaaScalarBytesB
import Derived.Test.YtpcockfnljdilaaScalarBytesC
namespace Go.Proofs.Ytpcockfnljdilaa.ScalarBytesWalk
open Go.RowKit
set_option linter.unusedVariables false
theorem walk0 (w : World) (a : Nat) (ha : a < T256) (b : Nat) (hb : b < T256) (z : Int) (hz : (Lit.int .i64 z).wf = true) : Calls Try.prog 9 [nu a, nu b, .int .i64 z].toArray w (Ret (.bool true) w) := by
  by_cases h0 : z < 0
  · exact ScalarBytesA1.walk w a ha b hb z h0
  · by_cases h1 : z > 32
    · exact ScalarBytesA2.walk w a ha b hb z h0 h1
    · obtain ⟨k, rfl⟩ := Int.eq_ofNat_of_zero_le (Int.not_lt.1 h0)
      by_cases hk0 : k = 0
      · subst hk0
        exact ScalarBytesB.walk w a ha b hb
      · exact ScalarBytesC.walk w a ha b hb k (by omega) (by omega)
theorem walk (w : World) (a : Nat) (ha : a < T256) (b : Nat) (hb : b < T256) (z : Int) (hz : (Lit.int .i64 z).wf = true) : Calls Try.prog 9 #[num a, num b, .int .i64 z] w (Ret (.bool true) w) := by
  rw [nu_num, nu_num]
  exact walk0 w a ha b hb z hz
end Go.Proofs.Ytpcockfnljdilaa.ScalarBytesWalk
