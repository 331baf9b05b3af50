/- When two numbers are told alike. -/
import Derived.Test.YtglbnbdeoenilaaProg
import Derived.Test.YtglbnbdeoenilaaNum
import Derived.Test.YtglbnbdeoenilaaCom
import Derived.Test.YtglbnbdeoenilaaMild
import Derived.BigRegion
import Derived.RegionTactic
import Derived.ChangeAlike
import Derived.WalkLawsBesides
import Derived.WalkSpells
namespace Go.Proofs.Ytglbnbdeoenilaa
open Go.RowKit
theorem zNum : zeroCells Try.prog 33 = some #[.int .u64 0, .int .u64 0, .int .u64 0, .int .u64 0] := by kernel_rfl
theorem zWide : zeroCells Try.prog 89 = some #[.int .u64 0, .int .u64 0, .int .u64 0, .int .u64 0, .int .u64 0, .int .u64 0, .int .u64 0, .int .u64 0] := by kernel_rfl
theorem eql_num (a b : Nat) (ha : a < T256) (hb : b < T256) (w : World) :
    (Op.equalIn 10000 33 (num a) (num b)).run Try.prog w = .ok (decide (a = b)) w := by
  have h := eql_ints (P := Try.prog) (t := 33) (e := 31) (k := .u64) (k' := .u64) w 9998 4 [limb a 0, limb a 1, limb a 2, limb a 3] [limb b 0, limb b 1, limb b 2, limb b 3] (by kernel_rfl) (by kernel_rfl) (by kernel_rfl) (by kernel_rfl) (by kernel_rfl) rfl rfl
  have e : (([limb a 0, limb a 1, limb a 2, limb a 3] : List Int) == [limb b 0, limb b 1, limb b 2, limb b 3]) = decide (a = b) := by
    by_cases hab : a = b
    · subst hab; simp
    · rw [decide_eq_false hab, Bool.eq_false_iff]
      intro hc
      have hc := eq_of_beq hc
      simp only [List.cons.injEq, and_true] at hc
      exact hab (num_inj ha hb hc.1 hc.2.1 hc.2.2.1 hc.2.2.2)
  rw [e] at h
  exact h
end Go.Proofs.Ytglbnbdeoenilaa
