/- field.Mul. -/
import Derived.Test.YtpcockfnljdilaaFieldMulPlain
import Derived.Test.YtpcockfnljdilaaField
namespace Go.Proofs.Ytpcockfnljdilaa
open Go.RowKit
set_option linter.unusedVariables false
set_option linter.unusedSimpArgs false
set_option maxRecDepth 8000
theorem mul64_38 (A : Nat) (hA : A < 18446744073709551616) : ∃ hi lo : Nat, A * 38 = lo + 18446744073709551616 * hi ∧ lo < 18446744073709551616 ∧ hi < 38 ∧
    ∀ w, Calls Try.prog 64 #[.int .u64 A, .int .u64 38] w (Ret (.tuple #[.int .u64 hi, .int .u64 lo]) w) :=
  ⟨A * 38 / 18446744073709551616, A * 38 % 18446744073709551616, by omega, by omega, by omega, fun w => (mul64 A 38 hA (by omega) w).mono fun e w' ⟨h1, h2⟩ => by
    subst h2; exact ⟨h1, Below.refl _ _⟩⟩
theorem add64_nat (x y : Nat) (hx : x < 18446744073709551616) (hy : y < 18446744073709551616) : ∃ lo c : Nat, x + y = lo + 18446744073709551616 * c ∧ lo < 18446744073709551616 ∧ c ≤ 1 ∧
    ∀ w : World, (callFunc 61 #[.int .u64 (x : Int), .int .u64 (y : Int), .int .u64 0]).run Try.prog w = .ok (.value (.tuple #[.int .u64 (lo : Int), .int .u64 (c : Int)])) w :=
  ⟨(x + y) % 18446744073709551616, (x + y) / 18446744073709551616, by omega, by omega, by omega, fun w => by
    have h := run_add (x : Int) (y : Int) 0 ⟨by omega, by omega⟩ ⟨by omega, by omega⟩ (by omega) (by omega) w
    rw [h]
    unfold sumLo sumHi
    congr 5⟩
end Go.Proofs.Ytpcockfnljdilaa
