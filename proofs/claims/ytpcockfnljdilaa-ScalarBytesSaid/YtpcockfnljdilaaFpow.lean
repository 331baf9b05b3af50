/- field.pow, Inv, Sqrt. -/
import Derived.Test.YtpcockfnljdilaaFpowPlain
import Derived.Test.YtpcockfnljdilaaFe
import Derived.Test.YtpcockfnljdilaaNuB
namespace Go.Proofs.Ytpcockfnljdilaa
open Go.RowKit
set_option maxRecDepth 100000
set_option linter.unusedVariables false
set_option linter.unusedSimpArgs false
set_option maxRecDepth 8000
theorem sqrt_n1 : ∃ z y, (∀ w, Calls Try.prog 59 [nu 1, .int .i64 252].toArray w (Ret (nu z) w)) ∧ (∀ w, Calls Try.prog 55 [nu z, nu 2].toArray w (Ret (.tuple #[nu E1, .int .u64 y]) w)) := by
  have e2 : (1 * 2 ^ 252 % T256 + T256 - 2) % T256 = E1 := by decide +kernel
  have D := sub_nu (1 * 2 ^ 252 % T256) 2 (Nat.mod_lt _ (by decide)) (by decide)
  rw [e2] at D
  exact ⟨_, _, fun w => shl_nu 1 252 (by decide) (by decide) w, D⟩
theorem sqrt_n2 : ∃ z y, (∀ w, Calls Try.prog 59 [nu 1, .int .i64 253].toArray w (Ret (nu z) w)) ∧ (∀ w, Calls Try.prog 55 [nu z, nu 5].toArray w (Ret (.tuple #[nu E2, .int .u64 y]) w)) := by
  have e2 : (1 * 2 ^ 253 % T256 + T256 - 5) % T256 = E2 := by decide +kernel
  have D := sub_nu (1 * 2 ^ 253 % T256) 5 (Nat.mod_lt _ (by decide)) (by decide)
  rw [e2] at D
  exact ⟨_, _, fun w => shl_nu 1 253 (by decide) (by decide) w, D⟩
theorem odd_word (n : Nat) : bits .and .u64 (limb n 0) 1 = ((n % 2 : Nat) : Int) := by
  have h := bits_and_u64_nat (n % 18446744073709551616) 1 (Nat.mod_lt _ (by decide)) (by omega)
  rw [Nat.and_one_is_mod] at h
  rw [limb0]
  refine h.trans ?_
  congr 1
  omega
end Go.Proofs.Ytpcockfnljdilaa
