/- What field.Mul makes of a product's words: plain law. -/
import Derived.Test.YtpcockfnljdilaaFieldPlain
namespace Go.Proofs.Ytpcockfnljdilaa
/-- What has been summed up behind i words. -/
def fmS (W i : Nat) : Nat := W % 2 ^ (64 * i) + 38 * (W / T256 % 2 ^ (64 * i))
def fmO (W i : Nat) : Nat := fmS W i % 2 ^ (64 * i)
def fmC (W i : Nat) : Nat := fmS W i / 2 ^ (64 * i)
theorem fm_zero (W : Nat) : fmO W 0 = 0 ∧ fmC W 0 = 0 := by
  have : fmS W 0 = 0 := by unfold fmS; rw [Nat.mul_zero, Nat.pow_zero, Nat.mod_one, Nat.mod_one]
  unfold fmO fmC; rw [this]; simp
theorem lw_hi (W i : Nat) : lw (W / T256) i = lw W (i + 4) := by
  unfold lw
  rw [T256_eq, Nat.div_div_eq_div_mul, ← Nat.pow_add, show 256 + 64 * i = 64 * (i + 4) by omega]
theorem mod_step (W i : Nat) : W % 2 ^ (64 * (i + 1)) = W % 2 ^ (64 * i) + 2 ^ (64 * i) * lw W i := by
  unfold lw
  rw [show 64 * (i + 1) = 64 * i + 64 by omega, Nat.pow_add, Nat.mod_mul]
theorem fmS_succ (W i : Nat) : fmS W (i + 1) = fmS W i + 2 ^ (64 * i) * (lw W i + 38 * lw W (i + 4)) := by
  unfold fmS
  rw [mod_step, mod_step, lw_hi]
  simp only [Nat.mul_add, Nat.mul_left_comm 38]
  omega
theorem fmC_lt (W i : Nat) : fmC W i < 39 := by
  unfold fmC fmS
  have h0 : 0 < 2 ^ (64 * i) := Nat.pow_pos (by omega)
  have h1 := Nat.mod_lt W h0
  have h2 := Nat.mod_lt (W / T256) h0
  rw [Nat.div_lt_iff_lt_mul h0]
  omega
theorem fm_step {W i A B lo c : Nat} (hA : A = lw W (i + 4)) (hB : B = lw W i) (h : A * 38 + B + fmC W i = lo + 18446744073709551616 * c) (hlo : lo < 18446744073709551616) :
    fmC W (i + 1) = c ∧ fmO W (i + 1) = fmO W i + 2 ^ (64 * i) * lo := by
  have e := fmS_succ W i
  have d := Nat.mod_add_div (fmS W i) (2 ^ (64 * i))
  have h0 : 0 < 2 ^ (64 * i) := Nat.pow_pos (by omega)
  have hm := Nat.mod_lt (fmS W i) h0
  rw [← hA, ← hB] at e
  have e2 : fmS W (i + 1) = fmO W i + 2 ^ (64 * i) * (lo + 18446744073709551616 * c) := by
    rw [e, ← h]
    unfold fmO fmC
    rw [← hA.symm.symm] at *
    conv => lhs; rw [← d]
    rw [Nat.add_assoc, ← Nat.mul_add]
    congr 2
    omega
  have e3 : (2 : Nat) ^ (64 * (i + 1)) = 2 ^ (64 * i) * 18446744073709551616 := by rw [show 64 * (i + 1) = 64 * i + 64 by omega, Nat.pow_add]
  have e4 : fmS W (i + 1) = (fmO W i + 2 ^ (64 * i) * lo) + 2 ^ (64 * (i + 1)) * c := by
    rw [e2, e3, Nat.mul_add, Nat.add_assoc, Nat.mul_assoc]
  have hlt : fmO W i + 2 ^ (64 * i) * lo < 2 ^ (64 * (i + 1)) := by
    rw [e3]
    have hm' : fmO W i < 2 ^ (64 * i) := hm
    have : 2 ^ (64 * i) * lo + 2 ^ (64 * i) ≤ 2 ^ (64 * i) * 18446744073709551616 := by
      rw [← Nat.mul_succ]; exact Nat.mul_le_mul_left _ hlo
    omega
  constructor
  · unfold fmC; rw [e4, Nat.add_mul_div_left _ _ (Nat.pow_pos (by omega)), Nat.div_eq_of_lt hlt, Nat.zero_add]
  · unfold fmO; rw [e4, Nat.add_mul_mod_self_left, Nat.mod_eq_of_lt hlt]; rfl
theorem fmO_lt (W i : Nat) : fmO W i < 2 ^ (64 * i) := Nat.mod_lt _ (Nat.pow_pos (by omega))
/-- A word is put on top. -/
theorem limb_top (x i lo : Nat) (hx : x < 2 ^ (64 * i)) (hlo : lo < 18446744073709551616) :
    ((lo : Nat) : Int) = limb (x + 2 ^ (64 * i) * lo) i ∧ ∀ k, k ≠ i → limb x k = limb (x + 2 ^ (64 * i) * lo) k := by
  have h0 : 0 < 2 ^ (64 * i) := Nat.pow_pos (by omega)
  refine ⟨?_, fun k hk => ?_⟩
  · unfold limb
    rw [Nat.add_mul_div_left _ _ h0, Nat.div_eq_of_lt hx, Nat.zero_add, Nat.mod_eq_of_lt hlo]
  · unfold limb
    congr 1
    rcases Nat.lt_or_gt_of_ne hk with h | h
    · obtain ⟨d, rfl⟩ : ∃ d, i = k + 1 + d := ⟨i - (k + 1), by omega⟩
      have e : (2 : Nat) ^ (64 * (k + 1 + d)) * lo = 2 ^ (64 * k) * (18446744073709551616 * (2 ^ (64 * d) * lo)) := by
        rw [show 64 * (k + 1 + d) = 64 * k + (64 + 64 * d) by omega, Nat.pow_add, Nat.pow_add, Nat.mul_assoc, Nat.mul_assoc]
      rw [e, Nat.add_mul_div_left _ _ (Nat.pow_pos (by omega)), Nat.add_mul_mod_self_left]
    · obtain ⟨d, rfl⟩ : ∃ d, k = i + 1 + d := ⟨k - (i + 1), by omega⟩
      have e : (2 : Nat) ^ (64 * i) * 18446744073709551616 ≤ 2 ^ (64 * (i + 1 + d)) := by
        rw [show 64 * (i + 1 + d) = 64 * i + (64 + 64 * d) by omega, Nat.pow_add, Nat.pow_add]
        exact Nat.mul_le_mul_left _ (Nat.le_mul_of_pos_right _ (Nat.pow_pos (by omega)))
      have h1 : 2 ^ (64 * i) * lo + 2 ^ (64 * i) ≤ 2 ^ (64 * i) * 18446744073709551616 := by
        rw [← Nat.mul_succ]; exact Nat.mul_le_mul_left _ hlo
      have h2 : 2 ^ (64 * i) ≤ 2 ^ (64 * i) * 18446744073709551616 := Nat.le_mul_of_pos_right _ (by omega)
      rw [Nat.div_eq_of_lt (by omega), Nat.div_eq_of_lt (by omega)]
/-- The last steps: 38 times what is carried is put on, and 38 once more if that carries. -/
theorem fm_fold {T p x c S : Nat} (hT : T = 2 * p + 38) (hS : S = x + T * c) : (x + 38 * c) % p = S % p := by
  rw [hS, hT, show x + (2 * p + 38) * c = (x + 38 * c) + p * (2 * c) by rw [Nat.add_mul]; simp only [Nat.mul_assoc, Nat.mul_left_comm p 2]; omega, Nat.add_mul_mod_self_left]
theorem fm_end (W : Nat) (hW : W < T512) : fmS W 4 % PP = W % PP ∧ fmS W 4 = fmO W 4 + T256 * fmC W 4 := by
  have e : fmS W 4 = W % T256 + 38 * (W / T256) := by
    unfold fmS
    have h : W / T256 < T256 := Nat.div_lt_of_lt_mul hW
    rw [show 2 ^ (64 * 4) = T256 from T256_eq.symm, Nat.mod_eq_of_lt h]
  refine ⟨?_, ?_⟩
  · rw [e, fm_fold PP_T (S := W) (Nat.mod_add_div W T256).symm]
  · have h := (Nat.mod_add_div (fmS W 4) T256).symm
    unfold fmO fmC
    rw [show 2 ^ (64 * 4) = T256 from T256_eq.symm]
    exact h
end Go.Proofs.Ytpcockfnljdilaa
