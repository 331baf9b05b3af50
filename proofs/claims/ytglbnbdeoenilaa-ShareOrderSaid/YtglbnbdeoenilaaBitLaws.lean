/- Bits of numbers, in plain terms: what Bit, Pick, Len and Shift answer. -/
import Derived.Test.YtglbnbdeoenilaaBits
import Derived.Test.YtglbnbdeoenilaaShift
import Derived.Test.YtglbnbdeoenilaaWords
namespace Go.Proofs.Ytglbnbdeoenilaa
open Go.RowKit
set_option linter.unusedVariables false
set_option linter.unusedSimpArgs false
theorem lw_shl0 (a q k i : Nat) (hk : k < 64) (hi : i < 4) (h : i < q) : lw (a * 2 ^ (64 * q + k) % T256) i = 0 := by
  apply Nat.eq_of_testBit_eq; intro j
  rw [lw_bit, T256_eq, Nat.testBit_mod_two_pow, Nat.testBit_mul_two_pow, Nat.zero_testBit]
  by_cases hj : j < 64
  · rw [decide_eq_false (by omega : ¬ 64 * i + j ≥ 64 * q + k)]; simp
  · simp [hj]
theorem lw_shl1 (a q k i : Nat) (hk : k < 64) (hi : i < 4) (h : i = q) : lw (a * 2 ^ (64 * q + k) % T256) i = lw a 0 * 2 ^ k % 2 ^ 64 := by
  apply Nat.eq_of_testBit_eq; intro j
  rw [lw_bit, T256_eq, Nat.testBit_mod_two_pow, Nat.testBit_mul_two_pow, Nat.testBit_mod_two_pow, Nat.testBit_mul_two_pow, lw_bit]
  subst h
  by_cases hj : j < 64
  · by_cases hk' : k ≤ j
    · rw [show 64 * i + j - (64 * i + k) = j - k by omega, decide_eq_true (by omega : 64 * i + j < 256), decide_eq_true (by omega : 64 * i + j ≥ 64 * i + k), decide_eq_true (by omega : j ≥ k), decide_eq_true (by omega : j - k < 64)]
      simp
    · rw [decide_eq_false (by omega : ¬ 64 * i + j ≥ 64 * i + k), decide_eq_false (by omega : ¬ j ≥ k)]; simp
  · simp [hj]
theorem lw_shl2 (a q k i : Nat) (hk : k < 64) (hi : i < 4) (h : q < i) : lw (a * 2 ^ (64 * q + k) % T256) i = (lw a (i - q) * 2 ^ k % 2 ^ 64) ||| (lw a (i - q - 1) / 2 ^ (64 - k)) := by
  apply Nat.eq_of_testBit_eq; intro j
  rw [lw_bit, T256_eq, Nat.testBit_mod_two_pow, Nat.testBit_mul_two_pow, Nat.testBit_or, Nat.testBit_mod_two_pow, Nat.testBit_mul_two_pow, lw_bit, Nat.testBit_div_two_pow, lw_bit]
  by_cases hj : j < 64
  · by_cases hk' : k ≤ j
    · rw [show 64 * i + j - (64 * q + k) = 64 * (i - q) + (j - k) by omega, decide_eq_true (by omega : 64 * i + j < 256), decide_eq_true (by omega : 64 * i + j ≥ 64 * q + k), decide_eq_true (by omega : j ≥ k), decide_eq_true (by omega : j - k < 64), decide_eq_false (by omega : ¬ j + (64 - k) < 64)]
      simp
    · rw [show 64 * i + j - (64 * q + k) = 64 * (i - q - 1) + (j + (64 - k)) by omega, decide_eq_true (by omega : 64 * i + j < 256), decide_eq_true (by omega : 64 * i + j ≥ 64 * q + k), decide_eq_false (by omega : ¬ j ≥ k), decide_eq_true (by omega : j + (64 - k) < 64)]
      simp [hj]
  · rw [decide_eq_false (by omega : ¬ j + (64 - k) < 64)]; simp [hj]
theorem lw_shr0 (a q k i : Nat) (ha : a < T256) (hk : k < 64) (h : 3 < i + q) : lw (a / 2 ^ (64 * q + k)) i = 0 := by
  apply Nat.eq_of_testBit_eq; intro j
  rw [lw_bit, Nat.testBit_div_two_pow, Nat.zero_testBit, Nat.testBit_lt_two_pow (Nat.lt_of_lt_of_le (T256_eq ▸ ha) (Nat.pow_le_pow_right (by omega) (by omega)))]; simp
theorem lw_shr1 (a q k i : Nat) (ha : a < T256) (hk : k < 64) (h : i + q = 3) : lw (a / 2 ^ (64 * q + k)) i = lw a 3 / 2 ^ k := by
  apply Nat.eq_of_testBit_eq; intro j
  rw [lw_bit, Nat.testBit_div_two_pow, Nat.testBit_div_two_pow, lw_bit, show 64 * i + j + (64 * q + k) = 64 * 3 + (j + k) by omega]
  by_cases hj : j + k < 64
  · rw [decide_eq_true hj, decide_eq_true (by omega : j < 64)]
  · rw [decide_eq_false hj, Nat.testBit_lt_two_pow (Nat.lt_of_lt_of_le (T256_eq ▸ ha) (Nat.pow_le_pow_right (by omega) (by omega)))]; simp
theorem lw_shr2 (a q k i : Nat) (hk : k < 64) : lw (a / 2 ^ (64 * q + k)) i = (lw a (i + q) / 2 ^ k) ||| (lw a (i + q + 1) * 2 ^ (64 - k) % 2 ^ 64) := by
  apply Nat.eq_of_testBit_eq; intro j
  rw [lw_bit, Nat.testBit_div_two_pow, Nat.testBit_or, Nat.testBit_div_two_pow, lw_bit, Nat.testBit_mod_two_pow, Nat.testBit_mul_two_pow, lw_bit]
  by_cases hj : j + k < 64
  · rw [decide_eq_true hj, decide_eq_true (by omega : j < 64), decide_eq_false (by omega : ¬ j ≥ 64 - k), show 64 * i + j + (64 * q + k) = 64 * (i + q) + (j + k) by omega]; simp
  · rw [decide_eq_false hj]
    by_cases hj' : j < 64
    · rw [decide_eq_true hj', decide_eq_true (by omega : j ≥ 64 - k), decide_eq_true (by omega : j - (64 - k) < 64), show 64 * i + j + (64 * q + k) = 64 * (i + q + 1) + (j - (64 - k)) by omega]; simp
    · simp [hj']
theorem shl_all (a n : Nat) (ha : a < T256) (hn : n ≤ 255) (w : World) : Calls Try.prog 66 #[num a, .int .i64 n] w (Ret (num (a * 2 ^ n % T256)) w) := by
  obtain ⟨q, k, hk, rfl⟩ : ∃ q k, k < 64 ∧ n = 64 * q + k := ⟨n / 64, n % 64, Nat.mod_lt _ (by omega), (Nat.div_add_mod _ _).symm⟩
  have hq : q = 0 ∨ q = 1 ∨ q = 2 ∨ q = 3 := by omega
  have hk0 : ((k : Nat) : Int).toNat = k := by omega
  have hk1 : (64 - (k : Int)).toNat = 64 - k := by omega
  have hl := fun i => lw_lt a i
  have s (i : Nat) := dn_lt (64 - k) (hl i)
  have u (i : Nat) := up_lt (lw a i) k
  simp only [num, limb_lw]
  rcases hq with rfl | rfl | rfl | rfl
  · have h := shl_w0 (lw a 0) (lw a 1) (lw a 2) (lw a 3) ((64 * 0 + k : Nat) : Int) k (by omega) (by omega) (by omega) (by omega) (by omega) (by omega) w
    rw [hk0, hk1] at h
    simp only [int_shl, int_shr, int_or _ _ (u _) (s _)] at h
    rw [lw_shl1 a 0 k 0 hk (by omega) rfl, lw_shl2 a 0 k 1 hk (by omega) (by omega), lw_shl2 a 0 k 2 hk (by omega) (by omega), lw_shl2 a 0 k 3 hk (by omega) (by omega)]
    exact h
  · have h := shl_w1 (lw a 0) (lw a 1) (lw a 2) (lw a 3) ((64 * 1 + k : Nat) : Int) k (by omega) (by omega) (by omega) (by omega) (by omega) (by omega) w
    rw [hk0, hk1] at h
    simp only [int_shl, int_shr, int_or _ _ (u _) (s _)] at h
    rw [lw_shl0 a 1 k 0 hk (by omega) (by omega), lw_shl1 a 1 k 1 hk (by omega) rfl, lw_shl2 a 1 k 2 hk (by omega) (by omega), lw_shl2 a 1 k 3 hk (by omega) (by omega)]
    exact h
  · have h := shl_w2 (lw a 0) (lw a 1) (lw a 2) (lw a 3) ((64 * 2 + k : Nat) : Int) k (by omega) (by omega) (by omega) (by omega) (by omega) (by omega) w
    rw [hk0, hk1] at h
    simp only [int_shl, int_shr, int_or _ _ (u _) (s _)] at h
    rw [lw_shl0 a 2 k 0 hk (by omega) (by omega), lw_shl0 a 2 k 1 hk (by omega) (by omega), lw_shl1 a 2 k 2 hk (by omega) rfl, lw_shl2 a 2 k 3 hk (by omega) (by omega)]
    exact h
  · have h := shl_w3 (lw a 0) (lw a 1) (lw a 2) (lw a 3) ((64 * 3 + k : Nat) : Int) k (by omega) (by omega) (by omega) (by omega) (by omega) (by omega) w
    rw [hk0] at h
    simp only [int_shl, int_shr] at h
    rw [lw_shl0 a 3 k 0 hk (by omega) (by omega), lw_shl0 a 3 k 1 hk (by omega) (by omega), lw_shl0 a 3 k 2 hk (by omega) (by omega), lw_shl1 a 3 k 3 hk (by omega) rfl]
    exact h
theorem shr_all (a m : Nat) (ha : a < T256) (h0 : 0 < m) (hm : m ≤ 255) (w : World) : Calls Try.prog 66 #[num a, .int .i64 (-(m : Int))] w (Ret (num (a / 2 ^ m)) w) := by
  obtain ⟨q, k, hk, rfl⟩ : ∃ q k, k < 64 ∧ m = 64 * q + k := ⟨m / 64, m % 64, Nat.mod_lt _ (by omega), (Nat.div_add_mod _ _).symm⟩
  have hq : q = 0 ∨ q = 1 ∨ q = 2 ∨ q = 3 := by omega
  have hk0 : ((k : Nat) : Int).toNat = k := by omega
  have hk1 : (64 - (k : Int)).toNat = 64 - k := by omega
  have hl := fun i => lw_lt a i
  have s (i : Nat) := dn_lt k (hl i)
  have u (i : Nat) := up_lt (lw a i) (64 - k)
  simp only [num, limb_lw]
  rcases hq with rfl | rfl | rfl | rfl
  · have h := shr_w0 (lw a 0) (lw a 1) (lw a 2) (lw a 3) (-((64 * 0 + k : Nat) : Int)) ((64 * 0 + k : Nat) : Int) k (by omega) (by omega) (by omega) (by omega) (by omega) (by omega) (by omega) (by omega) (by omega) w
    rw [hk0, hk1] at h
    simp only [int_shl, int_shr, int_or _ _ (s _) (u _)] at h
    rw [lw_shr2 a 0 k 0 hk, lw_shr2 a 0 k 1 hk, lw_shr2 a 0 k 2 hk, lw_shr1 a 0 k 3 ha hk (by omega)]
    exact h
  · have h := shr_w1 (lw a 0) (lw a 1) (lw a 2) (lw a 3) (-((64 * 1 + k : Nat) : Int)) ((64 * 1 + k : Nat) : Int) k (by omega) (by omega) (by omega) (by omega) (by omega) (by omega) (by omega) (by omega) (by omega) w
    rw [hk0, hk1] at h
    simp only [int_shl, int_shr, int_or _ _ (s _) (u _)] at h
    rw [lw_shr2 a 1 k 0 hk, lw_shr2 a 1 k 1 hk, lw_shr1 a 1 k 2 ha hk (by omega), lw_shr0 a 1 k 3 ha hk (by omega)]
    exact h
  · have h := shr_w2 (lw a 0) (lw a 1) (lw a 2) (lw a 3) (-((64 * 2 + k : Nat) : Int)) ((64 * 2 + k : Nat) : Int) k (by omega) (by omega) (by omega) (by omega) (by omega) (by omega) (by omega) (by omega) (by omega) w
    rw [hk0, hk1] at h
    simp only [int_shl, int_shr, int_or _ _ (s _) (u _)] at h
    rw [lw_shr2 a 2 k 0 hk, lw_shr1 a 2 k 1 ha hk (by omega), lw_shr0 a 2 k 2 ha hk (by omega), lw_shr0 a 2 k 3 ha hk (by omega)]
    exact h
  · have h := shr_w3 (lw a 0) (lw a 1) (lw a 2) (lw a 3) (-((64 * 3 + k : Nat) : Int)) ((64 * 3 + k : Nat) : Int) k (by omega) (by omega) (by omega) (by omega) (by omega) (by omega) (by omega) (by omega) (by omega) w
    rw [hk0] at h
    simp only [int_shl, int_shr] at h
    rw [lw_shr1 a 3 k 0 ha hk (by omega), lw_shr0 a 3 k 1 ha hk (by omega), lw_shr0 a 3 k 2 ha hk (by omega), lw_shr0 a 3 k 3 ha hk (by omega)]
    exact h
theorem mod2_of_bit {x y i j : Nat} (h : x.testBit i = y.testBit j) : x / 2 ^ i % 2 = y / 2 ^ j % 2 := by
  rw [Nat.testBit_eq_decide_div_mod_eq, Nat.testBit_eq_decide_div_mod_eq] at h
  have := decide_eq_decide.1 h
  omega
theorem bit_plain (a q k : Nat) (hk : k < 64) : bits .and .u64 ((lw a q : Int) / 2 ^ k) 1 = ((a / 2 ^ (64 * q + k) % 2 : Nat) : Int) := by
  rw [int_shr, show (1 : Int) = ((1 : Nat) : Int) from rfl, bits_and_u64_nat _ _ (dn_lt k (lw_lt a q)) (by omega), Nat.and_one_is_mod]
  congr 1
  exact mod2_of_bit (by rw [lw_bit, decide_eq_true hk]; rfl)
/-- Bits that are needed. -/
def blen (a : Nat) : Nat := if a = 0 then 0 else Nat.log2 a + 1
theorem blen_le {a n : Nat} : blen a ≤ n ↔ a < 2 ^ n := by
  unfold blen
  by_cases h : a = 0
  · subst h; simp [Nat.two_pow_pos]
  · rw [if_neg h, Nat.succ_le_iff, Nat.log2_lt h]
theorem lt_blen {a n : Nat} : n < blen a ↔ 2 ^ n ≤ a := by
  rw [← Nat.not_le, blen_le, Nat.not_lt]
theorem blen_aux : ∀ (f x : Nat), x < 2 ^ f → Lib.bitLenAux f x = blen x
  | 0, x, h => by have : x = 0 := by omega
                  subst this; rfl
  | f + 1, x, h => by
    unfold Lib.bitLenAux
    by_cases h0 : x = 0
    · subst h0; rfl
    · rw [if_neg h0, blen_aux f (x / 2) (by rw [Nat.pow_succ] at h; omega)]
      unfold blen
      rw [if_neg h0]
      by_cases h1 : x / 2 = 0
      · have : x = 1 := by omega
        subst this; decide
      · rw [if_neg h1]
        conv => rhs; rw [Nat.log2_def]
        rw [if_pos (by omega)]; omega
theorem blen_div (a s : Nat) (h : a / 2 ^ s ≠ 0) : blen a = s + blen (a / 2 ^ s) := by
  have p : 0 < 2 ^ s := Nat.two_pow_pos s
  apply Nat.le_antisymm
  · rw [blen_le, Nat.pow_add]
    have h1 : a / 2 ^ s < 2 ^ blen (a / 2 ^ s) := blen_le.1 (Nat.le_refl _)
    have := (Nat.div_lt_iff_lt_mul p).1 h1
    rw [Nat.mul_comm] at this
    exact this
  · have h1 : 0 < blen (a / 2 ^ s) := lt_blen.2 (by rw [Nat.pow_zero]; exact Nat.pos_of_ne_zero h)
    obtain ⟨m, hm⟩ : ∃ m, blen (a / 2 ^ s) = m + 1 := ⟨blen (a / 2 ^ s) - 1, by omega⟩
    have h2 : 2 ^ m ≤ a / 2 ^ s := lt_blen.1 (by omega)
    rw [hm]
    have : s + m < blen a := by
      rw [lt_blen, Nat.pow_add, Nat.mul_comm]
      exact (Nat.le_div_iff_mul_le p).1 h2
    omega
theorem len64_all (x : Nat) (h : x < 18446744073709551616) (w : World) : Calls Try.prog 76 #[.int .u64 x] w (Ret (.int .i64 (blen x : Nat)) w) := by
  have k := len64 x (by omega) (by omega) w
  rw [show Lib.bitLen (x : Int).toNat = blen x from blen_aux 64 x h] at k
  exact k
theorem blen_64 {x : Nat} (h : x < 18446744073709551616) : blen x ≤ 64 := blen_le.2 h
theorem lw_top {a i : Nat} (h : ∀ j, i < j → j < 4 → lw a j = 0) (ha : a < T256) (hi : i < 4) : lw a i = a / 2 ^ (64 * i) := by
  apply Nat.eq_of_testBit_eq; intro j
  rw [lw_bit, Nat.testBit_div_two_pow, Nat.add_comm j]
  by_cases hj : j < 64
  · simp [hj]
  · rw [decide_eq_false hj, Bool.false_and]
    symm
    obtain ⟨m, r, hr, e⟩ : ∃ m r, r < 64 ∧ 64 * i + j = 64 * m + r := ⟨(64 * i + j) / 64, (64 * i + j) % 64, Nat.mod_lt _ (by omega), (Nat.div_add_mod _ _).symm⟩
    rw [e]
    by_cases hm : m < 4
    · have h1 := lw_bit a m r
      rw [h m (by omega) hm, Nat.zero_testBit, decide_eq_true hr, Bool.true_and] at h1
      exact h1.symm
    · exact Nat.testBit_lt_two_pow (Nat.lt_of_lt_of_le (T256_eq ▸ ha) (Nat.pow_le_pow_right (by omega) (by omega)))
theorem ne_bool {x : Nat} (h : x ≠ 0) : (((x : Nat) : Int) != 0) = true := by simpa using h
theorem eq_bool {x : Nat} (h : x = 0) : (((x : Nat) : Int) != 0) = false := by simpa using h
end Go.Proofs.Ytglbnbdeoenilaa
