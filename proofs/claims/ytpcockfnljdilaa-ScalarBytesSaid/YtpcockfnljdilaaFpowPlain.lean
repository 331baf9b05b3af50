/- Powers modulo 2^255 - 19 by squaring; the root that field.Sqrt looks for: plain laws. -/
import Derived.Test.YtpcockfnljdilaaFePlain
import Derived.Test.YtpcockfnljdilaaBitLaws
namespace Go.Proofs.Ytpcockfnljdilaa
theorem fpow_zero (a : Nat) : fpow a 0 = 1 := by simp only [fpow_def]; rw [Nat.pow_zero]; decide +kernel
theorem fpow_add (a m n : Nat) : fpow a (m + n) = fmul (fpow a m) (fpow a n) := by
  simp only [fpow_def, fmul_def]; rw [Nat.mod_mul_mod, Nat.mul_mod_mod, Nat.pow_add]
theorem fpow_one (a : Nat) : fpow a 1 = flow a := by simp only [fpow_def, flow_def]; rw [Nat.pow_one]
theorem fmul_flow_right (a b : Nat) : fmul a (flow b) = fmul a b := by simp only [fmul_def, flow_def]; rw [Nat.mul_mod_mod]
theorem fmul_flow_left (a b : Nat) : fmul (flow a) b = fmul a b := by simp only [fmul_def, flow_def]; rw [Nat.mod_mul_mod]
theorem fpow_flow (a n : Nat) : fpow (flow a) n = fpow a n := by simp only [fpow_def, flow_def]; rw [← Nat.pow_mod]
theorem fpow_even (a m : Nat) : fpow a (2 * m) = fmul (fpow a m) (fpow a m) := by rw [Nat.two_mul, fpow_add]
theorem fpow_odd (a m : Nat) : fpow a (2 * m + 1) = fmul (fmul (fpow a m) (fpow a m)) a := by
  rw [fpow_add, fpow_even, fpow_one, fmul_flow_right]
theorem fpow_top (a n : Nat) : fpow a (n / 2 ^ blen n) = 1 := by
  rw [Nat.div_eq_of_lt (blen_le.1 (Nat.le_refl _)), fpow_zero]
theorem fpow_bit (a n j : Nat) : fpow a (n / 2 ^ j) = if n / 2 ^ j % 2 = 1 then fmul (fmul (fpow a (n / 2 ^ (j + 1))) (fpow a (n / 2 ^ (j + 1)))) a else fmul (fpow a (n / 2 ^ (j + 1))) (fpow a (n / 2 ^ (j + 1))) := by
  have e : n / 2 ^ (j + 1) = n / 2 ^ j / 2 := by rw [Nat.pow_succ, Nat.div_div_eq_div_mul]
  rw [e]
  generalize n / 2 ^ j = m
  split
  · rename_i h
    rw [← fpow_odd, show 2 * (m / 2) + 1 = m by omega]
  · rename_i h
    rw [← fpow_even, show 2 * (m / 2) = m by omega]
def E1 : Nat := 7237005577332262213973186563042994240829374041602535252466099000494570602494
def E2 : Nat := 14474011154664524427946373126085988481658748083205070504932198000989141204987
theorem E1_is : E1 = 2 ^ 252 - 2 := by decide +kernel
theorem E2_is : E2 = 2 ^ 253 - 5 := by decide +kernel
def finv (a : Nat) : Nat := fpow a (PP - 2)
def rootA (a : Nat) : Nat := fpow a E1
def rootB (a : Nat) : Nat := if fmul (rootA a) (rootA a) = flow a then rootA a else fmul (rootA a) (fpow 2 E2)
def isSq (a : Nat) : Bool := decide (fmul (rootB a) (rootB a) = flow a)
def rootC (a : Nat) : Nat := if rootB a % 2 = 1 then fsub 0 (rootB a) else rootB a
def froot (a : Nat) : Nat := if isSq a = true then rootC a else 0
theorem rootB_lt (a : Nat) : rootB a < T256 := by unfold rootB rootA; split; exact fpow_lt _ _; exact fmul_lt _ _
theorem rootB_P (a : Nat) : rootB a < PP := by unfold rootB rootA; split; exact fpow_P _ _; exact fmul_P _ _
theorem rootC_P (a : Nat) : rootC a < PP := by unfold rootC; split; exact fsub_P _ _; exact rootB_P _
theorem froot_P (a : Nat) : froot a < PP := by unfold froot; split; exact rootC_P _; decide
theorem finv_lt (a : Nat) : finv a < T256 := fpow_lt _ _
theorem froot_lt (a : Nat) : froot a < T256 := Nat.lt_trans (froot_P a) PP_lt
end Go.Proofs.Ytpcockfnljdilaa
