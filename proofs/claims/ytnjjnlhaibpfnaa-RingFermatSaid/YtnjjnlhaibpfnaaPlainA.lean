/- Numbers modulo 2^255 - 19: what Low makes. Sums, differences, products modulo 2^255 - 19 on numbers: plain laws. Powers modulo 2^255 - 19 by squaring; the root that field.Sqrt looks for: plain laws. -/
import Derived.Test.YtnjjnlhaibpfnaaNuAll
import Derived.Test.YtnjjnlhaibpfnaaBitLaws
namespace Go.Proofs.Ytnjjnlhaibpfnaa
def PP : Nat := 57896044618658097711785492504343953926634992332820282019728792003956564819949
theorem PP_T : T256 = 2 * PP + 38 := by decide +kernel
theorem PP_pos : 38 < PP := by decide +kernel
def sinkP (a : Nat) : Nat → Nat
  | 0 => a
  | i + 1 => if PP ≤ sinkP a i then sinkP a i - PP else sinkP a i
theorem sinkP_lt {a : Nat} (ha : a < T256) : ∀ i, sinkP a i < T256
  | 0 => ha
  | i + 1 => by have := sinkP_lt ha i; unfold sinkP; split <;> omega
theorem sinkP_two {a : Nat} (ha : a < T256) : sinkP a 2 = a % PP := by
  have h1 := PP_T
  have h2 := PP_pos
  have e : sinkP a 2 = if PP ≤ sinkP a 1 then sinkP a 1 - PP else sinkP a 1 := rfl
  have e1 : sinkP a 1 = if PP ≤ a then a - PP else a := rfl
  generalize PP = p at *
  rw [e, e1]
  by_cases k1 : p ≤ a
  · rw [if_pos k1]
    by_cases k2 : p ≤ a - p
    · rw [if_pos k2, Nat.mod_eq_sub_mod k1, Nat.mod_eq_sub_mod k2, Nat.mod_eq_of_lt (by omega)]
    · rw [if_neg k2, Nat.mod_eq_sub_mod k1, Nat.mod_eq_of_lt (by omega)]
  · rw [if_neg k1, if_neg k1, Nat.mod_eq_of_lt (by omega)]
end Go.Proofs.Ytnjjnlhaibpfnaa
namespace Go.Proofs.Ytnjjnlhaibpfnaa
def flow (a : Nat) : Nat := a % PP
def fadd (a b : Nat) : Nat := (a + b) % PP
def fmul (a b : Nat) : Nat := a * b % PP
def fsub (a b : Nat) : Nat := (a % PP + PP - b % PP) % PP
def fpow (a n : Nat) : Nat := a ^ n % PP
theorem PP_lt : PP < T256 := by decide +kernel
theorem flow_P (a : Nat) : flow a < PP := Nat.mod_lt _ (by decide)
theorem fadd_P (a b : Nat) : fadd a b < PP := Nat.mod_lt _ (by decide)
theorem fmul_P (a b : Nat) : fmul a b < PP := Nat.mod_lt _ (by decide)
theorem fsub_P (a b : Nat) : fsub a b < PP := Nat.mod_lt _ (by decide)
theorem fpow_P (a b : Nat) : fpow a b < PP := Nat.mod_lt _ (by decide)
theorem flow_lt (a : Nat) : flow a < T256 := Nat.lt_trans (flow_P a) PP_lt
theorem fadd_lt (a b : Nat) : fadd a b < T256 := Nat.lt_trans (fadd_P a b) PP_lt
theorem fmul_lt (a b : Nat) : fmul a b < T256 := Nat.lt_trans (fmul_P a b) PP_lt
theorem fsub_lt (a b : Nat) : fsub a b < T256 := Nat.lt_trans (fsub_P a b) PP_lt
theorem fpow_lt (a b : Nat) : fpow a b < T256 := Nat.lt_trans (fpow_P a b) PP_lt
theorem flow_of {a : Nat} (h : a < PP) : flow a = a := Nat.mod_eq_of_lt h
theorem fadd_comm (a b : Nat) : fadd a b = fadd b a := by unfold fadd; rw [Nat.add_comm]
theorem fmul_comm (a b : Nat) : fmul a b = fmul b a := by unfold fmul; rw [Nat.mul_comm]
theorem fadd_assoc (a b c : Nat) : fadd (fadd a b) c = fadd a (fadd b c) := by
  unfold fadd; rw [Nat.mod_add_mod, Nat.add_mod_mod, Nat.add_assoc]
theorem fmul_assoc (a b c : Nat) : fmul (fmul a b) c = fmul a (fmul b c) := by
  unfold fmul; rw [Nat.mod_mul_mod, Nat.mul_mod_mod, Nat.mul_assoc]
theorem fmul_add (a b c : Nat) : fmul a (fadd b c) = fadd (fmul a b) (fmul a c) := by
  unfold fmul fadd; rw [Nat.mul_mod_mod, Nat.mod_add_mod, Nat.add_mod_mod, Nat.mul_add]
theorem fmul_one (a : Nat) : fmul a 1 = flow a := by unfold fmul flow; rw [Nat.mul_one]
theorem fsub_add (a b : Nat) : fadd (fsub a b) b = flow a := by
  unfold fadd fsub flow
  have h := Nat.mod_lt b (show 0 < PP by decide)
  have e := Nat.mod_add_div b PP
  rw [Nat.mod_add_mod]
  generalize PP = p at *
  generalize b / p = q at *
  generalize b % p = r at *
  rw [show a % p + p - r + b = a % p + p + p * q by omega, show a % p + p + p * q = a % p + p * (1 + q) by rw [Nat.mul_add, Nat.mul_one, Nat.add_assoc], Nat.add_mul_mod_self_left, Nat.mod_mod]
theorem fsub_self (a : Nat) : fsub a a = 0 := by
  unfold fsub
  have h := Nat.mod_lt a (show 0 < PP by decide)
  generalize PP = p at *
  generalize a % p = r at *
  rw [show r + p - r = p by omega, Nat.mod_self]
theorem flow_def (a : Nat) : flow a = a % PP := rfl
theorem fadd_def (a b : Nat) : fadd a b = (a + b) % PP := rfl
theorem fmul_def (a b : Nat) : fmul a b = a * b % PP := rfl
theorem fsub_def (a b : Nat) : fsub a b = (a % PP + PP - b % PP) % PP := rfl
theorem fpow_def (a n : Nat) : fpow a n = a ^ n % PP := rfl
attribute [irreducible] flow fadd fmul fsub fpow
end Go.Proofs.Ytnjjnlhaibpfnaa
namespace Go.Proofs.Ytnjjnlhaibpfnaa
theorem fpow_zero (a : Nat) : fpow a 0 = 1 := by simp only [fpow_def]; rw [Nat.pow_zero]; decide +kernel
theorem fpow_add (a m n : Nat) : fpow a (m + n) = fmul (fpow a m) (fpow a n) := by
  simp only [fpow_def, fmul_def]; rw [Nat.mod_mul_mod, Nat.mul_mod_mod, Nat.pow_add]
theorem fpow_one (a : Nat) : fpow a 1 = flow a := by simp only [fpow_def, flow_def]; rw [Nat.pow_one]
theorem fmul_flow_right (a b : Nat) : fmul a (flow b) = fmul a b := by simp only [fmul_def, flow_def]; rw [Nat.mul_mod_mod]
theorem fmul_flow_left (a b : Nat) : fmul (flow a) b = fmul a b := by simp only [fmul_def, flow_def]; rw [Nat.mod_mul_mod]
theorem fpow_flow (a n : Nat) : fpow (flow a) n = fpow a n := by simp only [fpow_def, flow_def]; rw [← Nat.pow_mod]
theorem fpow_even (a m : Nat) : fpow a (2 * m) = fmul (fpow a m) (fpow a m) := by rw [Nat.two_mul, fpow_add]
theorem fpow_odd (a m : Nat) : fpow a (2 * m + 1) = fmul (fmul (fpow a m) (fpow a m)) a := by
  rw [fpow_add, fpow_even, fpow_one, fmul_flow_right]
theorem fpow_top (a n : Nat) : fpow a (n / 2 ^ blen n) = 1 := by
  rw [Nat.div_eq_of_lt (blen_le.1 (Nat.le_refl _)), fpow_zero]
theorem fpow_bit (a n j : Nat) : fpow a (n / 2 ^ j) = if n / 2 ^ j % 2 = 1 then fmul (fmul (fpow a (n / 2 ^ (j + 1))) (fpow a (n / 2 ^ (j + 1)))) a else fmul (fpow a (n / 2 ^ (j + 1))) (fpow a (n / 2 ^ (j + 1))) := by
  have e : n / 2 ^ (j + 1) = n / 2 ^ j / 2 := by rw [Nat.pow_succ, Nat.div_div_eq_div_mul]
  rw [e]
  generalize n / 2 ^ j = m
  split
  · rename_i h
    rw [← fpow_odd, show 2 * (m / 2) + 1 = m by omega]
  · rename_i h
    rw [← fpow_even, show 2 * (m / 2) = m by omega]
def E1 : Nat := 7237005577332262213973186563042994240829374041602535252466099000494570602494
def E2 : Nat := 14474011154664524427946373126085988481658748083205070504932198000989141204987
theorem E1_is : E1 = 2 ^ 252 - 2 := by decide +kernel
theorem E2_is : E2 = 2 ^ 253 - 5 := by decide +kernel
def finv (a : Nat) : Nat := fpow a (PP - 2)
def rootA (a : Nat) : Nat := fpow a E1
def rootB (a : Nat) : Nat := if fmul (rootA a) (rootA a) = flow a then rootA a else fmul (rootA a) (fpow 2 E2)
def isSq (a : Nat) : Bool := decide (fmul (rootB a) (rootB a) = flow a)
def rootC (a : Nat) : Nat := if rootB a % 2 = 1 then fsub 0 (rootB a) else rootB a
def froot (a : Nat) : Nat := if isSq a = true then rootC a else 0
theorem rootB_lt (a : Nat) : rootB a < T256 := by unfold rootB rootA; split; exact fpow_lt _ _; exact fmul_lt _ _
theorem rootB_P (a : Nat) : rootB a < PP := by unfold rootB rootA; split; exact fpow_P _ _; exact fmul_P _ _
theorem rootC_P (a : Nat) : rootC a < PP := by unfold rootC; split; exact fsub_P _ _; exact rootB_P _
theorem froot_P (a : Nat) : froot a < PP := by unfold froot; split; exact rootC_P _; decide
theorem finv_lt (a : Nat) : finv a < T256 := fpow_lt _ _
theorem froot_lt (a : Nat) : froot a < T256 := Nat.lt_trans (froot_P a) PP_lt
end Go.Proofs.Ytnjjnlhaibpfnaa
