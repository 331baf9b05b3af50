/- A word of a number put anew; MONTGOMERY's rounds. Plain laws. -/
import Derived.Test.YtnjjnlhaibpfnaaRingPlain
import Derived.Test.YtnjjnlhaibpfnaaNewton
namespace Go.Proofs.Ytnjjnlhaibpfnaa
set_option linter.unusedVariables false
def PW (i : Nat) : Nat := 2 ^ (64 * i)
theorem PW_pos (i : Nat) : 0 < PW i := Nat.pow_pos (by decide)
theorem PW_add (i j : Nat) : PW (i + j) = PW i * PW j := by unfold PW; rw [Nat.mul_add, Nat.pow_add]
theorem PW_one : PW 1 = QQ := by decide +kernel
theorem PW_succ (i : Nat) : PW (i + 1) = PW i * QQ := by rw [PW_add, PW_one]
theorem PW_zero : PW 0 = 1 := rfl
theorem PW_4 : PW 4 = T256 := by decide +kernel
theorem PW_8 : PW 8 = T512 := by decide +kernel
theorem lw_PW (n i : Nat) : lw n i = n / PW i % QQ := by unfold lw PW QQ; rfl
def putW (W p v : Nat) : Nat := W / PW (p + 1) * PW (p + 1) + v * PW p + W % PW p
theorem putW_self (W p : Nat) : putW W p (lw W p) = W := by
  unfold putW
  rw [lw_PW, PW_succ]
  have h1 := Nat.div_add_mod W (PW p)
  have h2 := Nat.div_add_mod (W / PW p) QQ
  rw [Nat.div_div_eq_div_mul] at h2
  generalize W / (PW p * QQ) = A at *
  generalize W / PW p % QQ = w at *
  generalize W % PW p = B at *
  generalize PW p = P at *
  rw [← h2] at h1
  rw [← h1, Nat.mul_add]
  have : P * (QQ * A) = A * (P * QQ) := by rw [← Nat.mul_assoc, Nat.mul_comm]
  rw [this, Nat.mul_comm P w]
theorem putW_add (W p v : Nat) : putW W p v + lw W p * PW p = W + v * PW p := by
  have h := putW_self W p
  unfold putW at *
  omega
theorem putW_low (W p v : Nat) (i : Nat) (hi : i < p) : lw (putW W p v) i = lw W i := by
  have h := putW_self W p
  have key : ∀ x, lw (putW W p x) i = W % PW p / PW i % QQ := by
    intro x
    unfold putW
    rw [lw_PW]
    have e : PW p = PW i * QQ * PW (p - i - 1) := by rw [← PW_succ, ← PW_add]; congr 1; omega
    have e2 : W / PW (p + 1) * PW (p + 1) + x * PW p + W % PW p = W % PW p + PW i * (QQ * (PW (p - i - 1) * (W / PW (p + 1) * QQ + x))) := by
      rw [PW_succ p, e]
      generalize W / (PW i * QQ * PW (p - i - 1) * QQ) = A
      generalize W % (PW i * QQ * PW (p - i - 1)) = B
      generalize PW (p - i - 1) = R
      generalize PW i = S
      generalize QQ = q
      grind
    rw [e2, Nat.add_mul_div_left _ _ (PW_pos i), Nat.add_mul_mod_self_left]
  rw [key v]
  rw [← key (lw W p), h]
theorem putW_div (W p v : Nat) (hv : v < QQ) : putW W p v / PW (p + 1) = W / PW (p + 1) := by
  unfold putW
  have hB : W % PW p < PW p := Nat.mod_lt _ (PW_pos p)
  have hlt : v * PW p + W % PW p < PW (p + 1) := by
    rw [PW_succ]
    have : (v + 1) * PW p ≤ QQ * PW p := Nat.mul_le_mul_right _ hv
    rw [Nat.add_mul, Nat.one_mul] at this
    rw [Nat.mul_comm (PW p)]
    omega
  rw [Nat.add_assoc, Nat.add_comm, Nat.add_mul_div_right _ _ (PW_pos _), Nat.div_eq_of_lt hlt, Nat.zero_add]
theorem putW_high (W p v : Nat) (hv : v < QQ) (i : Nat) (hi : p < i) : lw (putW W p v) i = lw W i := by
  rw [lw_PW, lw_PW]
  have e : PW i = PW (p + 1) * PW (i - p - 1) := by rw [← PW_add]; congr 1; omega
  rw [e, ← Nat.div_div_eq_div_mul, ← Nat.div_div_eq_div_mul, putW_div W p v hv]
theorem putW_at (W p v : Nat) (hv : v < QQ) : lw (putW W p v) p = v := by
  rw [lw_PW]
  unfold putW
  have hB : W % PW p < PW p := Nat.mod_lt _ (PW_pos p)
  have e : W / PW (p + 1) * PW (p + 1) + v * PW p + W % PW p = W % PW p + PW p * (v + QQ * (W / PW (p + 1))) := by
    rw [PW_succ]
    generalize W / (PW p * QQ) = A
    generalize W % PW p = B
    generalize PW p = S
    generalize QQ = q
    grind
  rw [e, Nat.add_mul_div_left _ _ (PW_pos p), Nat.div_eq_of_lt hB, Nat.zero_add, Nat.add_mul_mod_self_left, Nat.mod_eq_of_lt hv]
theorem putW_lt (W p v : Nat) (hp : p < 8) (hW : W < T512) (hv : v < QQ) : putW W p v < T512 := by
  have h1 := putW_div W p v hv
  rw [← PW_8] at hW ⊢
  have e : PW 8 = PW (p + 1) * PW (7 - p) := by rw [← PW_add]; congr 1; omega
  rw [e] at hW ⊢
  have h2 := Nat.div_lt_of_lt_mul hW
  rw [← h1] at h2
  exact (Nat.div_lt_iff_lt_mul (PW_pos _)).1 h2 |> fun h => by rw [Nat.mul_comm] at h; exact h
/-! ### The rounds -/
/-- One word: what comes in, and what goes over. -/
theorem word_step (k mj w c : Nat) (hk : k < QQ) (hm : mj < QQ) (hw : w < QQ) (hc : c < QQ) :
    ((k * mj % QQ + w) % QQ + c) % QQ = (k * mj + w + c) % QQ ∧ k * mj / QQ + (k * mj % QQ + w) / QQ < QQ ∧ k * mj / QQ + (k * mj % QQ + w) / QQ + ((k * mj % QQ + w) % QQ + c) / QQ = (k * mj + w + c) / QQ ∧ (k * mj + w + c) / QQ < QQ := by
  have hp : k * mj ≤ (QQ - 1) * (QQ - 1) := Nat.mul_le_mul (by omega) (by omega)
  generalize k * mj = p at *
  unfold QQ at *
  omega
theorem put_sum {W p S c' : Nat} {c : Nat} (hS : S = lw W p + c) : putW W p (S % QQ) + S / QQ * PW (p + 1) = W + c * PW p := by
  have h := putW_add W p (S % QQ)
  have e := Nat.div_add_mod S QQ
  rw [PW_succ]
  have e2 : S % QQ * PW p + S / QQ * (PW p * QQ) = S * PW p := by
    have : S * PW p = (QQ * (S / QQ) + S % QQ) * PW p := by rw [e]
    rw [this]
    generalize S / QQ = a
    generalize S % QQ = b
    generalize PW p = P
    generalize QQ = q
    grind
  have e4 : S * PW p = lw W p * PW p + c * PW p := by rw [hS, Nat.add_mul]
  rw [e4] at e2
  omega
theorem low_step (m j : Nat) : m % PW (j + 1) = m % PW j + lw m j * PW j := by
  rw [lw_PW, PW_succ, Nat.mod_mul, Nat.mul_comm (PW j)]
theorem inner_step {W W0 k m i j c : Nat} (h : W + c * PW (i + j) = W0 + k * (m % PW j) * PW i) :
    putW W (i + j) ((k * lw m j + lw W (i + j) + c) % QQ) + (k * lw m j + lw W (i + j) + c) / QQ * PW (i + (j + 1)) = W0 + k * (m % PW (j + 1)) * PW i := by
  have e := put_sum (W := W) (p := i + j) (c' := 0) (S := k * lw m j + lw W (i + j) + c) (c := k * lw m j + c) (by omega)
  rw [show i + (j + 1) = i + j + 1 by omega, e, low_step, Nat.add_mul, ← Nat.add_assoc]
  rw [Nat.mul_add, Nat.add_mul]
  have e3 : k * lw m j * PW (i + j) = k * (lw m j * PW j) * PW i := by
    rw [PW_add]
    generalize lw m j = x
    generalize PW i = a
    generalize PW j = b
    grind
  rw [e3]
  omega
theorem tail_step {W T j c : Nat} (h : W + c * PW j = T) : putW W j ((lw W j + c) % QQ) + (lw W j + c) / QQ * PW (j + 1) = T := by
  rw [put_sum (c' := 0) (rfl : lw W j + c = lw W j + c)]
  exact h
/-- The lowest word becomes 0. -/
theorem zero_step {W m i inv k : Nat} (hW : W % PW i = 0) (hi : (lw m 0 * inv + 1) % QQ = 0) (hk : k = lw W i * inv % QQ) : (W + k * m * PW i) % PW (i + 1) = 0 := by
  have e := Nat.div_add_mod W (PW i)
  rw [hW, Nat.add_zero] at e
  have e2 : W + k * m * PW i = PW i * (W / PW i + k * m) := by
    rw [Nat.mul_add, e, Nat.mul_comm (k * m)]
  rw [e2, PW_succ, Nat.mul_mod_mul_left]
  have h3 : (W / PW i + k * m) % QQ = 0 := by
    have hm0 : lw m 0 = m % QQ := by rw [lw_PW, PW_zero, Nat.div_one]
    have hw : lw W i = W / PW i % QQ := lw_PW W i
    rw [hm0] at hi
    rw [hw] at hk
    generalize W / PW i = w at *
    rw [hk, Nat.add_mod, Nat.mul_mod (w % QQ * inv % QQ) m, Nat.mod_mod, ← Nat.mul_mod, ← Nat.add_mod]
    have e4 : (w + w % QQ * inv * m) % QQ = (w * (m % QQ * inv + 1)) % QQ := by
      rw [Nat.add_mod, Nat.mul_assoc, Nat.mul_mod (w % QQ), Nat.mod_mod, ← Nat.mul_mod w, ← Nat.add_mod]
      have a1 : (w + w * (inv * m)) % QQ = (w * (inv * m + 1)) % QQ := by rw [Nat.mul_add, Nat.mul_one, Nat.add_comm]
      rw [a1, Nat.mul_mod w (inv * m + 1), Nat.mul_mod w (m % QQ * inv + 1)]
      have a2 : (inv * m + 1) % QQ = (m % QQ * inv + 1) % QQ := by
        rw [Nat.add_mod, Nat.mul_comm inv m, Nat.mul_mod m inv, Nat.add_mod (m % QQ * inv) 1, Nat.mul_mod (m % QQ) inv, Nat.mod_mod]
      rw [a2]
    rw [e4, Nat.mul_mod, hi, Nat.mul_zero, Nat.zero_mod]
  rw [h3, Nat.mul_zero]
theorem kill_top {W c T i : Nat} (hi : i ≤ 8) (h : W + c * T512 = T) (hT : T % PW i = 0) : W % PW i = 0 := by
  have e : T512 = PW i * PW (8 - i) := by rw [← PW_8, ← PW_add]; congr 1; omega
  rw [← h, e] at hT
  have : c * (PW i * PW (8 - i)) = PW i * (c * PW (8 - i)) := by rw [Nat.mul_left_comm]
  rw [this, Nat.add_mul_mod_self_left] at hT
  exact hT
theorem PW_le {i : Nat} (h : i ≤ 4) : PW i ≤ T256 := by
  rw [← PW_4]
  exact Nat.pow_le_pow_right (by decide) (by omega)
theorem T512_sq : T512 = T256 * T256 := rfl
theorem round_end {t m z k U W e v i : Nat} (ht : t < T512) (hm : m < T256) (hi : i < 4) (hz : z < PW i) (hk : k < QQ) (he : W + v * T512 = t + m * z) (hU : U + e * PW 8 = W + k * m * PW i) :
    v + e ≤ 1 ∧ ∃ z', z' < PW (i + 1) ∧ U + (v + e) * T512 = t + m * z' := by
  rw [PW_8] at hU
  have hz2 : z + k * PW i < PW (i + 1) := by
    rw [PW_succ]
    have : (k + 1) * PW i ≤ QQ * PW i := Nat.mul_le_mul_right _ hk
    rw [Nat.add_mul, Nat.one_mul] at this
    rw [Nat.mul_comm (PW i)]
    omega
  have heq : U + (v + e) * T512 = t + m * (z + k * PW i) := by
    have e1 : k * m * PW i = m * (k * PW i) := by rw [Nat.mul_comm k m, Nat.mul_assoc]
    rw [e1] at hU
    rw [Nat.add_mul, Nat.mul_add]
    omega
  refine ⟨?_, z + k * PW i, hz2, heq⟩
  have hle : z + k * PW i < T256 := Nat.lt_of_lt_of_le hz2 (PW_le (by omega))
  have hlt : m * (z + k * PW i) < T512 := by rw [T512_sq]; exact Nat.mul_lt_mul'' hm hle
  have : (v + e) * T512 < 2 * T512 := by omega
  have := Nat.lt_of_mul_lt_mul_right this
  omega
theorem div_T {W : Nat} (h : W % T256 = 0) : W / T256 * T256 = W := by
  have := Nat.div_add_mod W T256
  rw [h, Nat.add_zero, Nat.mul_comm] at this
  exact this
theorem out_end0 {t m z W : Nat} (h1 : 1 < m) (ho : m % 2 = 1) (hW : W % T256 = 0) (he : W + 0 * T512 = t + m * z) : W / T256 % m = rout m t := by
  refine rout_uniq h1 ho (Nat.mod_lt _ (by omega)) ?_
  rw [Nat.mod_mul_mod, div_T hW, show W = t + m * z by rw [← he, Nat.zero_mul, Nat.add_zero], Nat.add_mul_mod_self_left]
theorem out_end1 {t m z W : Nat} (ht : t < T512) (hm : m < T256) (h1 : 1 < m) (ho : m % 2 = 1) (hW : W % T256 = 0) (hz : z < T256) (he : W + 1 * T512 = t + m * z) : W / T256 < m ∧ (W / T256 + T256 - m) % m = rout m t := by
  have hd := div_T hW
  rw [Nat.one_mul] at he
  have hlt : W / T256 < m := by
    have h2 : m * z < m * T256 := Nat.mul_lt_mul_of_pos_left hz (by omega)
    have h3 : W / T256 * T256 < m * T256 := by rw [hd]; omega
    exact Nat.lt_of_mul_lt_mul_right h3
  refine ⟨hlt, ?_⟩
  have e1 : (W / T256 + T256 - m) % m = (W / T256 + T256) % m := by
    have key : ∀ x : Nat, x + T256 = x + T256 - m + m := fun x => by omega
    conv => rhs; rw [key (W / T256), Nat.add_mod_right]
  rw [e1]
  refine rout_uniq h1 ho (Nat.mod_lt _ (by omega)) ?_
  rw [Nat.mod_mul_mod, Nat.add_mul, hd, show T256 * T256 = T512 from rfl, he, Nat.add_mul_mod_self_left]
end Go.Proofs.Ytnjjnlhaibpfnaa
