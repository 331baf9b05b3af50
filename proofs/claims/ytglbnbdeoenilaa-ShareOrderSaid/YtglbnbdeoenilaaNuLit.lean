/- Numbers that stand in the text. -/
import Derived.Test.YtglbnbdeoenilaaNuBase
namespace Go.Proofs.Ytglbnbdeoenilaa
open Go.RowKit
set_option linter.unusedVariables false
theorem wide_num (c : Nat) (h : c < T256) : wideC c = numC c ++ numC 0 := by
  unfold wideC numC
  have k := limb_two c 0 h
  rw [Nat.mul_zero, Nat.add_zero] at k
  rw [k.1, k.2.1, k.2.2.1, k.2.2.2.1, k.2.2.2.2.1, k.2.2.2.2.2.1, k.2.2.2.2.2.2.1, k.2.2.2.2.2.2.2]
  rfl
theorem wi_lit (c : Nat) (h : c < 18446744073709551616) : Value.agg [.int .u64 (c : Int), .int .u64 0, .int .u64 0, .int .u64 0, .int .u64 0, .int .u64 0, .int .u64 0, .int .u64 0].toArray = wi c := by
  have h0 := nu_lit 0 (by omega)
  have h1 := nu_lit c h
  simp only [nu, Value.agg.injEq] at h0 h1
  show _ = Value.agg (wideC c)
  rw [wide_num c (by unfold T256; omega), ← h0, ← h1]
  rfl
theorem nu_l0 : Value.agg [.int .u64 0, .int .u64 0, .int .u64 0, .int .u64 0].toArray = nu 0 := nu_lit 0 (by decide)
theorem nu_l1 : Value.agg [.int .u64 1, .int .u64 0, .int .u64 0, .int .u64 0].toArray = nu 1 := nu_lit 1 (by decide)
theorem nu_l2 : Value.agg [.int .u64 2, .int .u64 0, .int .u64 0, .int .u64 0].toArray = nu 2 := nu_lit 2 (by decide)
theorem nu_l3 : Value.agg [.int .u64 3, .int .u64 0, .int .u64 0, .int .u64 0].toArray = nu 3 := nu_lit 3 (by decide)
theorem nu_l5 : Value.agg [.int .u64 5, .int .u64 0, .int .u64 0, .int .u64 0].toArray = nu 5 := nu_lit 5 (by decide)
theorem nu_l7 : Value.agg [.int .u64 7, .int .u64 0, .int .u64 0, .int .u64 0].toArray = nu 7 := nu_lit 7 (by decide)
theorem nu_l8 : Value.agg [.int .u64 8, .int .u64 0, .int .u64 0, .int .u64 0].toArray = nu 8 := nu_lit 8 (by decide)
theorem nu_l9 : Value.agg [.int .u64 9, .int .u64 0, .int .u64 0, .int .u64 0].toArray = nu 9 := nu_lit 9 (by decide)
theorem nu_l19 : Value.agg [.int .u64 19, .int .u64 0, .int .u64 0, .int .u64 0].toArray = nu 19 := nu_lit 19 (by decide)
theorem nu_l38 : Value.agg [.int .u64 38, .int .u64 0, .int .u64 0, .int .u64 0].toArray = nu 38 := nu_lit 38 (by decide)
theorem nu_l121665 : Value.agg [.int .u64 121665, .int .u64 0, .int .u64 0, .int .u64 0].toArray = nu 121665 := nu_lit 121665 (by decide)
theorem wi_l0 : Value.agg [.int .u64 0, .int .u64 0, .int .u64 0, .int .u64 0, .int .u64 0, .int .u64 0, .int .u64 0, .int .u64 0].toArray = wi 0 := wi_lit 0 (by decide)
theorem wi_l3 : Value.agg [.int .u64 3, .int .u64 0, .int .u64 0, .int .u64 0, .int .u64 0, .int .u64 0, .int .u64 0, .int .u64 0].toArray = wi 3 := wi_lit 3 (by decide)
theorem wi_l7 : Value.agg [.int .u64 7, .int .u64 0, .int .u64 0, .int .u64 0, .int .u64 0, .int .u64 0, .int .u64 0, .int .u64 0].toArray = wi 7 := wi_lit 7 (by decide)
theorem wi_l15 : Value.agg [.int .u64 15, .int .u64 0, .int .u64 0, .int .u64 0, .int .u64 0, .int .u64 0, .int .u64 0, .int .u64 0].toArray = wi 15 := wi_lit 15 (by decide)
end Go.Proofs.Ytglbnbdeoenilaa
