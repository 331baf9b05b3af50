/- One step of a long division, plainly. -/
import Derived.Test.YtglbnbdeoenilaaNuA
import Derived.Test.YtglbnbdeoenilaaNuB
import Derived.Test.YtglbnbdeoenilaaNuW
namespace Go.Proofs.Ytglbnbdeoenilaa
open Go.RowKit
set_option maxRecDepth 100000
set_option linter.unusedVariables false
/-- The halving of what is left: a number and its lowest bit. -/
theorem half_step (a j : Nat) : a / 2 ^ j = 2 * (a / 2 ^ (j + 1)) + a / 2 ^ j % 2 := by
  rw [Nat.pow_succ, ← Nat.div_div_eq_div_mul]
  omega
theorem div_step {a m j R Q b : Nat} (hm : 0 < m) (hR : R = a / 2 ^ (j + 1) % m) (hQ : Q = a / 2 ^ (j + 1) / m) (hb : b = a / 2 ^ j % 2) :
    (m ≤ 2 * R + b → a / 2 ^ j % m = 2 * R + b - m ∧ a / 2 ^ j / m = 2 * Q + 1) ∧ (2 * R + b < m → a / 2 ^ j % m = 2 * R + b ∧ a / 2 ^ j / m = 2 * Q) := by
  have h := half_step a j
  rw [← hb] at h
  have hd := Nat.div_add_mod (a / 2 ^ (j + 1)) m
  rw [← hR, ← hQ] at hd
  have hl : R < m := by rw [hR]; exact Nat.mod_lt _ hm
  have hb2 : b < 2 := by rw [hb]; exact Nat.mod_lt _ (by omega)
  generalize a / 2 ^ (j + 1) = A at *
  generalize a / 2 ^ j = B at *
  have e : B = m * (2 * Q) + (2 * R + b) := by
    have e2 : m * (2 * Q) = 2 * (m * Q) := by rw [Nat.mul_left_comm]
    rw [h, e2]; omega
  constructor
  · intro hge
    have e' : B = (2 * R + b - m) + m * (2 * Q + 1) := by
      rw [e, Nat.mul_add, Nat.mul_one]; omega
    rw [e']
    constructor
    · rw [Nat.add_mul_mod_self_left]; exact Nat.mod_eq_of_lt (by omega)
    · rw [Nat.add_mul_div_left _ _ hm, Nat.div_eq_of_lt (by omega)]; omega
  · intro hlt
    have e' : B = (2 * R + b) + m * (2 * Q) := by rw [e]; omega
    rw [e']
    constructor
    · rw [Nat.add_mul_mod_self_left]; exact Nat.mod_eq_of_lt hlt
    · rw [Nat.add_mul_div_left _ _ hm, Nat.div_eq_of_lt hlt]; omega
/-- What is left, and how often, k bits before the end. -/
def dvR (a m k : Nat) : Nat := a / 2 ^ k % m
def dvQ (a m k : Nat) : Nat := a / 2 ^ k / m * 2 ^ k
theorem div_pow_top {a T M N : Nat} (ha : a < T) (h : T = 2 ^ M) (e : N = M) : a / 2 ^ N = 0 := by
  subst e
  exact Nat.div_eq_of_lt (Nat.lt_of_lt_of_eq ha h)
theorem dv_top (a m N : Nat) (ha : a < T512) (hN : N = 512) : dvR a m N = 0 ∧ dvQ a m N = 0 := by
  have h : a / 2 ^ N = 0 := div_pow_top ha T512_eq hN
  unfold dvR dvQ
  rw [h]
  exact ⟨Nat.zero_mod m, by rw [Nat.zero_div, Nat.zero_mul]⟩
theorem top_bit (R : Nat) (h : R < T256) : limb R 3 / 9223372036854775808 = ((R / 2 ^ 255 : Nat) : Int) ∧ R / 2 ^ 255 < 2 := by
  rw [limb3]
  have e255 : (2 : Nat) ^ 255 = 57896044618658097711785492504343953926634992332820282019728792003956564819968 := by decide +kernel
  unfold T256 at h
  rw [e255]
  constructor <;> omega
/-- A bit put at the end of an even number. -/
theorem limb_put0 (r b : Nat) (h2 : r % 2 = 0) (hb : b < 2) : bits .or .u64 (limb r 0) (b : Int) = limb (r + b) 0 ∧ ∀ i, i < 4 → i ≠ 0 → limb r i = limb (r + b) i := by
  constructor
  · rw [limb_lw, int_or _ _ (lw_lt r 0) (by omega), limb_lw]
    congr 1
    have hb' : b = 0 ∨ b = 1 := by omega
    unfold lw
    simp only [Nat.mul_zero, Nat.pow_zero, Nat.div_one]
    rcases hb' with rfl | rfl
    · simp
    · have e : (r + 1) % 2 ^ 64 = r % 2 ^ 64 + 1 := by omega
      rw [e]
      have hx : r % 2 ^ 64 = 2 * (r % 2 ^ 64 / 2) := by omega
      generalize r % 2 ^ 64 / 2 = y at hx
      rw [hx]
      have := Nat.two_pow_add_eq_or_of_lt (i := 1) (b := 1) (by omega) y
      rw [show (2 : Nat) ^ 1 * y = 2 * y by omega] at this
      exact this.symm
  · intro i hi h0
    rw [limb_lw, limb_lw]
    congr 1
    unfold lw
    congr 1
    have : i = 1 ∨ i = 2 ∨ i = 3 := by omega
    rcases this with rfl | rfl | rfl <;> (simp only [Nat.reduceMul, Nat.reducePow]; omega)
/-- A power of two added where all lower bits are noughts. -/
theorem limb_putbit (q j : Nat) (hj : j < 512) (hq : q % 2 ^ (j + 1) = 0) : bits .or .u64 (limb q (j / 64)) (((2 ^ (j % 64) : Nat)) : Int) = limb (q + 2 ^ j) (j / 64) ∧ ∀ i, i < 8 → i ≠ j / 64 → limb q i = limb (q + 2 ^ j) i := by
  have hor : q + 2 ^ j = q ||| 2 ^ j := by
    obtain ⟨c, hc⟩ := Nat.dvd_of_mod_eq_zero hq
    rw [hc]
    have := Nat.two_pow_add_eq_or_of_lt (i := j + 1) (b := 2 ^ j) (Nat.pow_lt_pow_right (by omega) (by omega)) c
    exact this
  have hlt : 2 ^ (j % 64) < 18446744073709551616 := by
    have := Nat.pow_lt_pow_right (a := 2) (by omega) (Nat.mod_lt j (show 0 < 64 by omega))
    exact this
  constructor
  · rw [limb_lw, int_or _ _ (lw_lt q _) hlt, limb_lw]
    congr 1
    apply Nat.eq_of_testBit_eq
    intro k
    rw [Nat.testBit_or, lw_bit, lw_bit, hor, Nat.testBit_or, Nat.testBit_two_pow, Nat.testBit_two_pow]
    have hd := Nat.div_add_mod j 64
    by_cases hk : k < 64
    · simp only [hk, decide_true, Bool.true_and]
      congr 1
      by_cases h : j % 64 = k
      · subst h; simp [hd]
      · have : ¬ j = 64 * (j / 64) + k := by omega
        simp [h, this]
    · have : ¬ j % 64 = k := by have := Nat.mod_lt j (show 0 < 64 by omega); omega
      simp [hk, this]
  · intro i hi hne
    rw [limb_lw, limb_lw]
    congr 1
    apply Nat.eq_of_testBit_eq
    intro k
    rw [lw_bit, lw_bit, hor, Nat.testBit_or, Nat.testBit_two_pow]
    by_cases hk : k < 64
    · have : ¬ j = 64 * i + k := by omega
      simp [this]
    · simp [hk]
theorem bit_wide (a j : Nat) : bits .and .u64 (limb a (j / 64) / 2 ^ ((j : Int) % 64).toNat) 1 = ((a / 2 ^ j % 2 : Nat) : Int) := by
  have e : ((j : Int) % 64).toNat = j % 64 := by omega
  rw [e, limb_lw, bit_plain a (j / 64) (j % 64) (Nat.mod_lt _ (by omega)), Nat.div_add_mod]
end Go.Proofs.Ytglbnbdeoenilaa
