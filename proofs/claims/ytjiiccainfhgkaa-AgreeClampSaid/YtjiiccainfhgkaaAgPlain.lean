/- agree.Clamp on numbers: plain laws. -/
import Derived.Test.YtjiiccainfhgkaaBv
import Derived.Test.YtjiiccainfhgkaaUnpack
import Derived.Test.YtjiiccainfhgkaaLawAll
import Derived.Test.YtjiiccainfhgkaaOrderLaw
namespace Go.Proofs.Ytjiiccainfhgkaa
open Go.RowKit
set_option linter.unusedVariables false
def clampA (k : Nat) : Nat := 8 * (k / 8)
def clamp (k : Nat) : Nat := clampA k % 2 ^ 254 + 2 ^ 254
theorem and_not7 : ∀ b : Nat, b < 256 → bits .andNot .u8 (b : Int) 7 = ((8 * (b / 8) : Nat) : Int) := by decide +kernel
theorem or_64 : ∀ y : Nat, y < 64 → ∀ c : Nat, c < 4 → bits .and .u8 ((y + 64 * c : Nat) : Int) 127 = (((y + 64 * c) % 128 : Nat) : Int) ∧ bits .or .u8 (((y + 64 * c) % 128 : Nat) : Int) 64 = ((y + 64 : Nat) : Int) := by decide +kernel
theorem clampA_byte (k : Nat) : byteOf (clampA k) 0 = 8 * (byteOf k 0 / 8) ∧ ∀ j, j < 32 → j ≠ 0 → byteOf k j = byteOf (clampA k) j := by
  constructor
  · unfold byteOf clampA
    rw [Nat.mul_zero, Nat.pow_zero, Nat.div_one, Nat.div_one]
    omega
  · intro j hj h0
    unfold byteOf clampA
    have e : 2 ^ (8 * j) = 8 * 2 ^ (8 * j - 3) := by
      rw [show (8 : Nat) = 2 ^ 3 from rfl, ← Nat.pow_add]; congr 1; omega
    rw [e, Nat.mul_div_mul_left _ _ (by decide), Nat.div_div_eq_div_mul]
theorem add254_byte (y c j : Nat) (hj : j < 31) : byteOf (y + 2 ^ 254 * c) j = byteOf y j := by
  unfold byteOf
  have e : y + 2 ^ 254 * c = y + 2 ^ (8 * j) * (256 * (2 ^ (246 - 8 * j) * c)) := by
    rw [← Nat.mul_assoc, ← Nat.mul_assoc, show 2 ^ (8 * j) * 256 * 2 ^ (246 - 8 * j) = 2 ^ 254 by
      rw [show (256 : Nat) = 2 ^ 8 from rfl, ← Nat.pow_add, ← Nat.pow_add]; congr 1; omega]
  rw [e, Nat.add_mul_div_left _ _ (Nat.pow_pos (by decide)), Nat.add_mul_mod_self_left]
theorem top254 (y c : Nat) (hy : y < 2 ^ 254) : y / 2 ^ 248 < 64 ∧ byteOf (y + 2 ^ 254 * c) 31 = (y / 2 ^ 248 + 64 * c) % 256 := by
  constructor
  · rw [Nat.div_lt_iff_lt_mul (by decide)]
    have e : (2 : Nat) ^ 254 = 64 * 2 ^ 248 := by decide +kernel
    omega
  · unfold byteOf
    have e : y + 2 ^ 254 * c = y + 2 ^ (8 * 31) * (64 * c) := by
      rw [← Nat.mul_assoc, show (2 : Nat) ^ (8 * 31) * 64 = 2 ^ 254 by decide +kernel]
    rw [e, Nat.add_mul_div_left _ _ (by decide)]
theorem clampA_lt {k : Nat} (hk : k < T256) : clampA k < T256 := by unfold clampA; omega
theorem clamp_byte {m k : Nat} (hm : m < T256) (hk : k = m % 2 ^ 254 + 2 ^ 254) : ∃ b : Nat, bits .and .u8 ((byteOf m 31 : Nat) : Int) 127 = (b : Int) ∧ bits .or .u8 (b : Int) 64 = ((byteOf k 31 : Nat) : Int) ∧ ∀ j, j < 32 → j ≠ 31 → byteOf m j = byteOf k j := by
  rw [T256_eq] at hm
  have hy : m % 2 ^ 254 < 2 ^ 254 := Nat.mod_lt _ (by decide)
  have hc : m / 2 ^ 254 < 4 := by
    rw [Nat.div_lt_iff_lt_mul (by decide)]
    rw [show 4 * (2 : Nat) ^ 254 = 2 ^ 256 by decide +kernel]
    exact hm
  have e : m = m % 2 ^ 254 + 2 ^ 254 * (m / 2 ^ 254) := (Nat.mod_add_div m (2 ^ 254)).symm
  have ek : k = m % 2 ^ 254 + 2 ^ 254 * 1 := by rw [Nat.mul_one]; exact hk
  obtain ⟨t1, t2⟩ := top254 (m % 2 ^ 254) (m / 2 ^ 254) hy
  obtain ⟨-, t3⟩ := top254 (m % 2 ^ 254) 1 hy
  rw [← e] at t2
  rw [← ek] at t3
  obtain ⟨o1, o2⟩ := or_64 _ t1 _ hc
  refine ⟨(m % 2 ^ 254 / 2 ^ 248 + 64 * (m / 2 ^ 254)) % 128, ?_, ?_, fun j hj hn => ?_⟩
  · rw [t2, Nat.mod_eq_of_lt (show m % 2 ^ 254 / 2 ^ 248 + 64 * (m / 2 ^ 254) < 256 by omega)]; exact o1
  · rw [t3, Nat.mul_one, Nat.mod_eq_of_lt (show m % 2 ^ 254 / 2 ^ 248 + 64 < 256 by omega)]; exact o2
  · have h1 := add254_byte (m % 2 ^ 254) (m / 2 ^ 254) j (by omega)
    have h2 := add254_byte (m % 2 ^ 254) 1 j (by omega)
    rw [← e] at h1
    rw [← ek] at h2
    rw [h1, h2]
theorem clamp_eight (k : Nat) : ∃ j, clamp k = 8 * j ∧ 2 ^ 251 ≤ j ∧ j < 2 ^ 252 := by
  have e : (2 : Nat) ^ 254 = 8 * 2 ^ 251 := by decide +kernel
  have e2 : (2 : Nat) ^ 252 = 2 * 2 ^ 251 := by decide +kernel
  refine ⟨(k / 8) % 2 ^ 251 + 2 ^ 251, ?_, by omega, ?_⟩
  · unfold clamp clampA
    rw [e, Nat.mul_mod_mul_left, Nat.mul_add]
  · have := Nat.mod_lt (k / 8) (show 0 < 2 ^ 251 by decide)
    omega
theorem clamp_lt (k : Nat) : clamp k < T256 := by
  obtain ⟨j, h1, h2, h3⟩ := clamp_eight k
  rw [T256_eq, h1]
  have e2 : (2 : Nat) ^ 256 = 16 * 2 ^ 252 := by decide +kernel
  omega
theorem clamp_clamp (k : Nat) : clamp (clamp k) = clamp k := by
  unfold clamp clampA
  have e : (2 : Nat) ^ 254 = 8 * 2 ^ 251 := by decide +kernel
  rw [e, Nat.mul_mod_mul_left, Nat.mul_mod_mul_left]
  have h := Nat.mod_lt (k / 8) (show 0 < 2 ^ 251 by decide)
  generalize k / 8 % 2 ^ 251 = x at *
  generalize (2 : Nat) ^ 251 = T at *
  rw [show (8 * x + 8 * T) / 8 = x + T by omega, Nat.add_mod_right, Nat.mod_eq_of_lt h]
theorem clamp_len (k : Nat) : blen (clamp k) = 255 := by
  obtain ⟨j, h1, h2, h3⟩ := clamp_eight k
  have a : blen (clamp k) ≤ 255 := by
    rw [blen_le, h1, show (2 : Nat) ^ 255 = 8 * 2 ^ 252 by decide +kernel]
    omega
  have b : ¬ blen (clamp k) ≤ 254 := by
    rw [blen_le, h1, show (2 : Nat) ^ 254 = 8 * 2 ^ 251 by decide +kernel]
    omega
  omega
theorem SL_252 : 2 ^ 252 < SL := by decide +kernel
theorem clamp_ndvd (k : Nat) : ¬ SL ∣ clamp k := by
  obtain ⟨j, h1, h2, h3⟩ := clamp_eight k
  intro h
  rw [h1] at h
  have hS := SL_252
  rcases prime_SL.dvd_mul h with h | h
  · have := Nat.le_of_dvd (by decide) h
    have : 8 < SL := by decide +kernel
    omega
  · have hp : 0 < (2 : Nat) ^ 251 := by decide
    have := Nat.le_of_dvd (by omega) h
    omega
/-! ### Two that agree -/
theorem place_mult {m : Nat} (h : place (Pt.base.times m) = 0) : SL ∣ 2 * m := by
  have h1 : plS 1 (E0.smul m Pt.base.f) = 0 := by
    rw [← times_f base_on, ← place_f, h, toF_zero]
  have hs := pl_sm one_sq (E0.smul_on base_on.f m) h1
  have h2 : E0.smul (2 * m) Pt.base.f = P2.zero := by
    rw [E0.smul_double base_on.f, E0.add_sm (E0.smul_on base_on.f m) (E0.smul_on base_on.f m) hs.1 hs.1, pm_sq hs.2]
    rfl
  exact Nat.dvd_of_mod_eq_zero ((E0.smul_prime base_on.f prime_SL base_LL base_ne _).1 h2)
theorem two_ndvd : ¬ SL ∣ 2 := fun h => by
  have := Nat.le_of_dvd (by decide) h
  have : 2 < SL := by decide +kernel
  omega
theorem lad9 {k : Nat} (hk : k < T256) : lad k 9 = place (Pt.base.times k) := by rw [← place_base, lad_place hk base_on]
theorem lad9_2 {j k : Nat} (hj : j < T256) (hk : k < T256) : lad j (lad k 9) = place (Pt.base.times (j * k)) := by
  rw [lad9 hk, lad_place hj (times_on base_on k), pt_times_times base_on]
theorem lad9_3 {i j k : Nat} (hi : i < T256) (hj : j < T256) (hk : k < T256) : lad i (lad j (lad k 9)) = place (Pt.base.times (i * (j * k))) := by
  rw [lad9_2 hj hk, lad_place hi (times_on base_on _), pt_times_times base_on]
theorem one_ne (a : Nat) : lad (clamp a) 9 ≠ 0 := fun h => by
  rw [lad9 (clamp_lt a)] at h
  rcases prime_SL.dvd_mul (place_mult h) with h1 | h1
  · exact two_ndvd h1
  · exact clamp_ndvd a h1
theorem both_ne (a b : Nat) : lad (clamp a) (lad (clamp b) 9) ≠ 0 := fun h => by
  rw [lad9_2 (clamp_lt a) (clamp_lt b)] at h
  rcases prime_SL.dvd_mul (place_mult h) with h1 | h1
  · exact two_ndvd h1
  · rcases prime_SL.dvd_mul h1 with h1 | h1
    · exact clamp_ndvd a h1
    · exact clamp_ndvd b h1
theorem three_ne (a b c : Nat) : lad (clamp a) (lad (clamp b) (lad (clamp c) 9)) ≠ 0 := fun h => by
  rw [lad9_3 (clamp_lt a) (clamp_lt b) (clamp_lt c)] at h
  rcases prime_SL.dvd_mul (place_mult h) with h1 | h1
  · exact two_ndvd h1
  · rcases prime_SL.dvd_mul h1 with h1 | h1
    · exact clamp_ndvd a h1
    · rcases prime_SL.dvd_mul h1 with h1 | h1
      · exact clamp_ndvd b h1
      · exact clamp_ndvd c h1
theorem small_no (a : Nat) {p : Pt} (hp : p.on) : lad (clamp a) (place (p.times SL)) = 0 := by
  obtain ⟨j, h1, -, -⟩ := clamp_eight a
  rw [lad_place (clamp_lt a) (times_on hp SL)]
  apply toF_inj (place_P _) (by decide)
  rw [place_f, times_f (times_on hp SL), times_f hp, E0.smul_smul hp.f, h1, show 8 * j * SL = j * (8 * SL) by rw [Nat.mul_comm 8 j, Nat.mul_assoc], E0.smul_mul_zero hp.f (order_f hp.f)]
  exact sm_pl (p := P2.zero) ⟨rfl, .inl rfl⟩
theorem upY_P {v : Nat} (h : v < PP) : upY v = v := Nat.mod_eq_of_lt (Nat.lt_trans h (by decide +kernel))
end Go.Proofs.Ytjiiccainfhgkaa
