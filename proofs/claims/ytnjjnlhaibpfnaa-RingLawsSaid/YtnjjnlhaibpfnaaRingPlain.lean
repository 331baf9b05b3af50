/- MONTGOMERY: t / 2^256 modulo an odd number. Plain laws. -/
import Derived.Test.YtnjjnlhaibpfnaaInvPlain
namespace Go.Proofs.Ytnjjnlhaibpfnaa
set_option linter.unusedVariables false
def rinv (m : Nat) : Nat := (invF m m (T256 % m) 0 1).2
/-- t / 2^256 modulo m. -/
def rout (m t : Nat) : Nat := t * rinv m % m
theorem cop {m : Nat} (h : m % 2 = 1) : Nat.gcd T256 m = 1 := by
  have h2 : Nat.Coprime 2 m := by
    have h3 : Nat.gcd 2 m ∣ 2 := Nat.gcd_dvd_left 2 m
    have h4 : Nat.gcd 2 m ∣ m := Nat.gcd_dvd_right 2 m
    have h5 := Nat.le_of_dvd (by decide) h3
    have h6 : Nat.gcd 2 m = 0 ∨ Nat.gcd 2 m = 1 ∨ Nat.gcd 2 m = 2 := by omega
    rcases h6 with h6 | h6 | h6
    · have := Nat.eq_zero_of_gcd_eq_zero_left h6
      omega
    · exact h6
    · rw [h6] at h4
      omega
  rw [T256_eq]
  exact Nat.Coprime.pow_left 256 h2
theorem rinv_spec {m : Nat} (hm : 1 < m) (h : m % 2 = 1) : rinv m * T256 % m = 1 := by
  have := (invF_start (m := m) (a := T256) hm).2.2
  rw [cop h, Nat.mod_eq_of_lt hm] at this
  exact this
theorem rout_lt {m : Nat} (hm : 1 < m) (t : Nat) : rout m t < m := Nat.mod_lt _ (by omega)
theorem rout_spec {m : Nat} (hm : 1 < m) (h : m % 2 = 1) (t : Nat) : rout m t * T256 % m = t % m := by
  unfold rout
  rw [Nat.mod_mul_mod, Nat.mul_assoc, Nat.mul_mod, rinv_spec hm h, Nat.mul_one, Nat.mod_mod]
theorem rout_uniq {m x t : Nat} (hm : 1 < m) (h : m % 2 = 1) (hx : x < m) (e : x * T256 % m = t % m) : x = rout m t := by
  unfold rout
  rw [Nat.mul_mod, ← e, ← Nat.mul_mod, Nat.mul_assoc, Nat.mul_comm T256, Nat.mul_mod, rinv_spec hm h, Nat.mul_one, Nat.mod_mod, Nat.mod_eq_of_lt hx]
theorem rout_mod {m : Nat} (t : Nat) : rout m (t % m) = rout m t := by unfold rout; rw [Nat.mod_mul_mod]
theorem rout_mul {m : Nat} (hm : 1 < m) (h : m % 2 = 1) (x : Nat) : rout m (x * T256) = x % m := by
  refine (rout_uniq hm h (Nat.mod_lt _ (by omega)) ?_).symm
  rw [Nat.mod_mul_mod]
theorem rout_cancel {m : Nat} (hm : 1 < m) (h : m % 2 = 1) {x y : Nat} (e : x % m = y * T256 % m) : rout m x = y % m := by
  rw [← rout_mod, e, rout_mod, rout_mul hm h]
/-- In. -/
def rsq (m : Nat) : Nat := T256 % m * (T256 % m) % m
theorem rin_spec {m : Nat} (hm : 1 < m) (h : m % 2 = 1) (a : Nat) : rout m (a * rsq m) = a * T256 % m := by
  refine rout_cancel hm h ?_
  unfold rsq
  rw [Nat.mul_mod_mod, Nat.mul_mod, ← Nat.mul_mod (T256) (T256), ← Nat.mul_mod, Nat.mul_assoc]
theorem rmul_spec {m : Nat} (hm : 1 < m) (h : m % 2 = 1) (a b : Nat) : rout m (a * T256 % m * b) = a * b % m := by
  refine rout_cancel hm h ?_
  rw [Nat.mod_mul_mod, Nat.mul_assoc, Nat.mul_comm T256, ← Nat.mul_assoc]
/-- Two of 2^256 times are one. -/
theorem rsq_spec {m : Nat} (hm : 1 < m) (h : m % 2 = 1) (x y : Nat) : rout m (x * T256 % m * (y * T256 % m)) = x * y * T256 % m := by
  refine rout_cancel hm h ?_
  rw [← Nat.mul_mod, Nat.mul_assoc, Nat.mul_left_comm T256 y, ← Nat.mul_assoc, ← Nat.mul_assoc]
end Go.Proofs.Ytnjjnlhaibpfnaa
