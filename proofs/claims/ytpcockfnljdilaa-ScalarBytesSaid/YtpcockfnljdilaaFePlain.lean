/- Sums, differences, products modulo 2^255 - 19 on numbers: plain laws. -/
import Derived.Test.YtpcockfnljdilaaFieldPlain
namespace Go.Proofs.Ytpcockfnljdilaa
def flow (a : Nat) : Nat := a % PP
def fadd (a b : Nat) : Nat := (a + b) % PP
def fmul (a b : Nat) : Nat := a * b % PP
def fsub (a b : Nat) : Nat := (a % PP + PP - b % PP) % PP
def fpow (a n : Nat) : Nat := a ^ n % PP
theorem PP_lt : PP < T256 := by decide +kernel
theorem flow_P (a : Nat) : flow a < PP := Nat.mod_lt _ (by decide)
theorem fadd_P (a b : Nat) : fadd a b < PP := Nat.mod_lt _ (by decide)
theorem fmul_P (a b : Nat) : fmul a b < PP := Nat.mod_lt _ (by decide)
theorem fsub_P (a b : Nat) : fsub a b < PP := Nat.mod_lt _ (by decide)
theorem fpow_P (a b : Nat) : fpow a b < PP := Nat.mod_lt _ (by decide)
theorem flow_lt (a : Nat) : flow a < T256 := Nat.lt_trans (flow_P a) PP_lt
theorem fadd_lt (a b : Nat) : fadd a b < T256 := Nat.lt_trans (fadd_P a b) PP_lt
theorem fmul_lt (a b : Nat) : fmul a b < T256 := Nat.lt_trans (fmul_P a b) PP_lt
theorem fsub_lt (a b : Nat) : fsub a b < T256 := Nat.lt_trans (fsub_P a b) PP_lt
theorem fpow_lt (a b : Nat) : fpow a b < T256 := Nat.lt_trans (fpow_P a b) PP_lt
theorem flow_of {a : Nat} (h : a < PP) : flow a = a := Nat.mod_eq_of_lt h
theorem fadd_comm (a b : Nat) : fadd a b = fadd b a := by unfold fadd; rw [Nat.add_comm]
theorem fmul_comm (a b : Nat) : fmul a b = fmul b a := by unfold fmul; rw [Nat.mul_comm]
theorem fadd_assoc (a b c : Nat) : fadd (fadd a b) c = fadd a (fadd b c) := by
  unfold fadd; rw [Nat.mod_add_mod, Nat.add_mod_mod, Nat.add_assoc]
theorem fmul_assoc (a b c : Nat) : fmul (fmul a b) c = fmul a (fmul b c) := by
  unfold fmul; rw [Nat.mod_mul_mod, Nat.mul_mod_mod, Nat.mul_assoc]
theorem fmul_add (a b c : Nat) : fmul a (fadd b c) = fadd (fmul a b) (fmul a c) := by
  unfold fmul fadd; rw [Nat.mul_mod_mod, Nat.mod_add_mod, Nat.add_mod_mod, Nat.mul_add]
theorem fmul_one (a : Nat) : fmul a 1 = flow a := by unfold fmul flow; rw [Nat.mul_one]
theorem fsub_add (a b : Nat) : fadd (fsub a b) b = flow a := by
  unfold fadd fsub flow
  have h := Nat.mod_lt b (show 0 < PP by decide)
  have e := Nat.mod_add_div b PP
  rw [Nat.mod_add_mod]
  generalize PP = p at *
  generalize b / p = q at *
  generalize b % p = r at *
  rw [show a % p + p - r + b = a % p + p + p * q by omega, show a % p + p + p * q = a % p + p * (1 + q) by rw [Nat.mul_add, Nat.mul_one, Nat.add_assoc], Nat.add_mul_mod_self_left, Nat.mod_mod]
theorem fsub_self (a : Nat) : fsub a a = 0 := by
  unfold fsub
  have h := Nat.mod_lt a (show 0 < PP by decide)
  generalize PP = p at *
  generalize a % p = r at *
  rw [show r + p - r = p by omega, Nat.mod_self]
theorem flow_def (a : Nat) : flow a = a % PP := rfl
theorem fadd_def (a b : Nat) : fadd a b = (a + b) % PP := rfl
theorem fmul_def (a b : Nat) : fmul a b = a * b % PP := rfl
theorem fsub_def (a b : Nat) : fsub a b = (a % PP + PP - b % PP) % PP := rfl
theorem fpow_def (a n : Nat) : fpow a n = a ^ n % PP := rfl
attribute [irreducible] flow fadd fmul fsub fpow
end Go.Proofs.Ytpcockfnljdilaa
