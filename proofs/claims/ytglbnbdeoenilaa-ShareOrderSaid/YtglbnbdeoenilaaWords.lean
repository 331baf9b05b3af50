/- The words of a number and the model's words for bits, in plain terms. -/
import Derived.Test.YtglbnbdeoenilaaNum
import Derived.Laws.Bits64
import Derived.Laws.Bits64b
namespace Go.Proofs.Ytglbnbdeoenilaa
open Go.RowKit
set_option linter.unusedVariables false
/-- Word i of a number. -/
def lw (n i : Nat) : Nat := n / 2 ^ (64 * i) % 2 ^ 64
theorem limb_lw (n i : Nat) : limb n i = (lw n i : Nat) := rfl
theorem lw_lt (n i : Nat) : lw n i < 18446744073709551616 := Nat.mod_lt _ (by decide)
theorem lw_bit (n i j : Nat) : (lw n i).testBit j = (decide (j < 64) && n.testBit (64 * i + j)) := by
  unfold lw; rw [Nat.testBit_mod_two_pow, Nat.testBit_div_two_pow, Nat.add_comm]
theorem int_shl (x k : Nat) : IntKind.u64.wrap ((x : Int) * 2 ^ k) = ((x * 2 ^ k % 2 ^ 64 : Nat) : Int) := by
  rw [IntKind.wrap_u64]
  have : ((x * 2 ^ k : Nat) : Int) = (x : Int) * 2 ^ k := by rw [Int.natCast_mul, Int.natCast_pow]; rfl
  rw [← this, Int.natCast_emod]; rfl
theorem int_shr (x k : Nat) : ((x : Int) / 2 ^ k) = ((x / 2 ^ k : Nat) : Int) := by
  rw [Int.natCast_ediv, Int.natCast_pow]; rfl
theorem int_or (x y : Nat) (hx : x < 18446744073709551616) (hy : y < 18446744073709551616) : bits .or .u64 (x : Int) (y : Int) = ((x ||| y : Nat) : Int) := bits_or_u64_nat x y hx hy
theorem up_lt (x k : Nat) : x * 2 ^ k % 2 ^ 64 < 18446744073709551616 := Nat.mod_lt _ (by decide)
theorem dn_lt {x : Nat} (k : Nat) (h : x < 18446744073709551616) : x / 2 ^ k < 18446744073709551616 := Nat.lt_of_le_of_lt (Nat.div_le_self _ _) h
end Go.Proofs.Ytglbnbdeoenilaa
