/- The field of 2^255 - 19 elements: no divisors of 0, inverses, roots: plain laws. -/
import Derived.Test.YtnjjnlhaibpfnaaPlainA
import Derived.Test.YtnjjnlhaibpfnaaEdwAll
namespace Go.Proofs.Ytnjjnlhaibpfnaa
set_option linter.unusedVariables false
set_option linter.unusedSimpArgs false
theorem PP_is : PP = 57896044618658097711785492504343953926634992332820282019728792003956564819949 := rfl
theorem PP_prime : Prime PP := prime_P
theorem PP_four : PP - 1 = 4 * E2 := by decide +kernel
theorem PP_two : 2 ≤ PP := by decide
theorem E2_pos : 0 < E2 := by decide
theorem E1_two : 2 * E1 = E2 + 1 := by decide +kernel
theorem PP_odd : PP % 2 = 1 := by decide +kernel
theorem two_ord : IsOrd PP 2 (PP - 1) := ord_P
theorem flow_zero_iff {a : Nat} : flow a = 0 ↔ PP ∣ a := by
  simp only [flow_def]
  exact Nat.dvd_iff_mod_eq_zero.symm
theorem fmul_zero_iff (a b : Nat) : fmul a b = 0 ↔ flow a = 0 ∨ flow b = 0 := by
  rw [flow_zero_iff, flow_zero_iff]
  simp only [fmul_def]
  rw [← Nat.dvd_iff_mod_eq_zero]
  exact ⟨PP_prime.dvd_mul, fun h => h.elim (fun h => Nat.dvd_trans h (Nat.dvd_mul_right a b)) (fun h => Nat.dvd_trans h (Nat.dvd_mul_left b a))⟩
theorem fmul_flow (a b : Nat) : flow (fmul a b) = fmul a b := flow_of (fmul_P a b)
theorem fpow_flow' (a b : Nat) : flow (fpow a b) = fpow a b := flow_of (fpow_P a b)
/-! ### All but 0 are powers of 2 -/
theorem fpow2_eq {i j : Nat} (h : i % (PP - 1) = j % (PP - 1)) : fpow 2 i = fpow 2 j := by
  have key : ∀ n, fpow 2 n = fpow 2 (n % (PP - 1)) := fun n => by
    have hd := Nat.mod_add_div n (PP - 1)
    conv => lhs; rw [← hd]
    rw [fpow_add]
    have : fpow 2 ((PP - 1) * (n / (PP - 1))) = 1 := by
      simp only [fpow_def]
      rw [pow_mod_mul, two_ord.2.1, Nat.one_pow, one_mod PP_two]
    rw [this, fmul_one, fpow_flow']
  rw [key i, key j, h]
theorem fpow2_inj {i j : Nat} (h : fpow 2 i = fpow 2 j) : i % (PP - 1) = j % (PP - 1) := by
  have hpos : 0 < PP - 1 := by have := PP_two; omega
  have e : fpow 2 (i % (PP - 1)) = fpow 2 (j % (PP - 1)) := by
    rw [fpow2_eq (i := i % (PP - 1)) (j := i) (Nat.mod_mod _ _), fpow2_eq (i := j % (PP - 1)) (j := j) (Nat.mod_mod _ _), h]
  simp only [fpow_def] at e
  exact ord_inj PP_two two_ord (Nat.mod_lt _ hpos) (Nat.mod_lt _ hpos) e
theorem is_pow2 {a : Nat} (h : flow a ≠ 0) : ∃ i, flow a = fpow 2 i := by
  have hlt := flow_P a
  obtain ⟨i, h1, h2⟩ := gen_all PP_two two_ord (flow a) (by omega) hlt
  refine ⟨i, ?_⟩
  rw [← h2, fpow_def]
theorem pow2_ne (i : Nat) : fpow 2 i ≠ 0 := by
  intro h
  simp only [fpow_def] at h
  have h1 : PP ∣ 2 ^ i := Nat.dvd_of_mod_eq_zero h
  have h2 := PP_prime.dvd_pow h1
  have := Nat.le_of_dvd (by decide) h2
  have : 2 < PP := by decide
  omega
theorem fpow_fpow (a m n : Nat) : fpow (fpow a m) n = fpow a (m * n) := by
  simp only [fpow_def]
  rw [pow_mod_mul]
theorem fpow_zero_base {n : Nat} (h : 0 < n) : fpow 0 n = 0 := by
  simp only [fpow_def]
  rw [Nat.zero_pow h, Nat.zero_mod]
/-! ### Inverses -/
theorem finv_flow (a : Nat) : finv (flow a) = finv a := by unfold finv; rw [fpow_flow]
theorem fmul_ff (a b : Nat) : fmul (flow a) (flow b) = fmul a b := by rw [fmul_flow_left, fmul_flow_right]
theorem finv_zero {a : Nat} (h : flow a = 0) : finv a = 0 := by
  rw [← finv_flow, h]
  exact fpow_zero_base (by decide)
theorem finv_pow2 (i : Nat) : finv (fpow 2 i) = fpow 2 (i * (PP - 2)) := by unfold finv; rw [fpow_fpow]
theorem fmul_finv {a : Nat} (h : flow a ≠ 0) : fmul a (finv a) = 1 := by
  obtain ⟨i, hi⟩ := is_pow2 h
  rw [← finv_flow, ← fmul_flow_left, hi, finv_pow2, ← fpow_add, ← fpow_zero 2]
  apply fpow2_eq
  rw [show i + i * (PP - 2) = (PP - 1) * i by
    have := PP_two
    rw [show PP - 1 = 1 + (PP - 2) by omega, Nat.add_mul, Nat.one_mul, Nat.mul_comm], Nat.mul_mod_right, Nat.zero_mod]
theorem finv_fmul (a b : Nat) : finv (fmul a b) = fmul (finv a) (finv b) := by
  unfold finv
  simp only [fpow_def]
  simp only [fmul_def]
  rw [← Nat.pow_mod, Nat.mul_pow, Nat.mul_mod]
theorem finv_finv (a : Nat) : finv (finv a) = flow a := by
  by_cases h : flow a = 0
  · rw [finv_zero h, h]; exact finv_zero (by rw [flow_of (by decide)])
  · obtain ⟨i, hi⟩ := is_pow2 h
    rw [← finv_flow a, hi, finv_pow2, finv_pow2]
    apply fpow2_eq
    have h2 := PP_two
    obtain ⟨m, hm⟩ : ∃ m, PP = m + 2 := ⟨PP - 2, by omega⟩
    rw [hm, show m + 2 - 2 = m by omega, show m + 2 - 1 = m + 1 by omega]
    have : i * m * m + 2 * i * (m + 1) = i + i * (m + 1) * (m + 1) := by
      simp only [Nat.mul_add, Nat.add_mul, Nat.mul_one, Nat.one_mul, Nat.mul_comm 2 i, Nat.mul_two]
      have e1 : i * 2 * m = i * m + i * m := by rw [Nat.mul_assoc, Nat.mul_comm 2 m, ← Nat.mul_assoc, Nat.mul_two]
      omega
    have h3 : (i * m * m + 2 * i * (m + 1)) % (m + 1) = (i + i * (m + 1) * (m + 1)) % (m + 1) := by rw [this]
    rwa [Nat.add_mul_mod_self_right, Nat.add_mul_mod_self_right] at h3
/-! ### Roots -/
theorem fneg_def (x : Nat) : fsub 0 x = (PP - x % PP) % PP := by
  simp only [fsub_def]
  rw [Nat.zero_mod, Nat.zero_add]
theorem fneg_add (x : Nat) : fadd (fsub 0 x) x = 0 := by rw [fsub_add]; exact flow_of (by decide)
theorem add_cancel {a b c : Nat} (ha : a < PP) (hb : b < PP) (h : fadd a c = fadd b c) : a = b := by
  have k : fadd (fadd a c) (fsub 0 c) = fadd (fadd b c) (fsub 0 c) := by rw [h]
  have z : ∀ x, x < PP → fadd (fadd x c) (fsub 0 c) = x := fun x hx => by
    rw [fadd_assoc, fadd_comm c, fneg_add]
    simp only [fadd_def]
    rw [Nat.add_zero, Nat.mod_eq_of_lt hx]
  rwa [z a ha, z b hb] at k
theorem fadd_zero (a : Nat) : fadd a 0 = flow a := by
  simp only [fadd_def]
  simp only [flow_def]
  rfl
theorem fmul_neg (a b : Nat) : fmul a (fsub 0 b) = fsub 0 (fmul a b) := by
  refine add_cancel (c := fmul a b) (fmul_P _ _) (fsub_P _ _) ?_
  rw [← fmul_add, fneg_add, fneg_add, fmul_comm]
  simp only [fmul_def]
  rw [Nat.zero_mul, Nat.zero_mod]
theorem fneg_neg (a : Nat) : fsub 0 (fsub 0 a) = flow a := by
  refine add_cancel (c := fsub 0 a) (fsub_P _ _) (flow_P _) ?_
  rw [fneg_add]
  simp only [flow_def, fadd_def, fsub_def]
  rw [Nat.mod_add_mod, Nat.zero_mod, Nat.zero_add, Nat.add_mod_mod]
  have h := Nat.mod_lt a (show 0 < PP by decide)
  have e := Nat.mod_add_div a PP
  generalize PP = p at *
  generalize a / p = q at *
  generalize a % p = r at *
  rw [show a + (p - r) = p + p * q by omega, Nat.add_mul_mod_self_left, Nat.mod_self]
theorem neg_sq (x : Nat) : fmul (fsub 0 x) (fsub 0 x) = fmul x x := by
  rw [fmul_neg, fmul_comm, fmul_neg, fneg_neg, fmul_flow]
theorem fneg_parity {x : Nat} (hx : x < PP) (h0 : x ≠ 0) : fsub 0 x = PP - x := by
  rw [fneg_def, Nat.mod_eq_of_lt hx, Nat.mod_eq_of_lt (by omega)]
theorem rootC_sq (a : Nat) : fmul (rootC a) (rootC a) = fmul (rootB a) (rootB a) := by
  unfold rootC; split
  · exact neg_sq _
  · rfl
theorem rootC_even (a : Nat) : rootC a % 2 = 0 := by
  unfold rootC; split
  · rename_i h
    have h1 := rootB_P a
    have h2 := PP_odd
    rw [fneg_parity h1 (by omega)]
    omega
  · omega
theorem isSq_iff {a : Nat} : isSq a = true ↔ fmul (rootB a) (rootB a) = flow a := by unfold isSq; exact decide_eq_true_iff
theorem isSq_flow (a : Nat) : isSq (flow a) = isSq a := by
  have e : flow (flow a) = flow a := flow_of (flow_P a)
  unfold isSq rootB rootA
  rw [fpow_flow, e]
theorem froot_flow (a : Nat) : froot (flow a) = froot a := by
  have e : flow (flow a) = flow a := flow_of (flow_P a)
  unfold froot rootC
  rw [isSq_flow]
  unfold rootB rootA
  rw [fpow_flow, e]
theorem isSq_zero : isSq 0 = true := by
  have e : rootA 0 = 0 := fpow_zero_base (by decide)
  have f : fmul 0 0 = flow 0 := by
    simp only [fmul_def, flow_def]
  rw [isSq_iff]
  unfold rootB
  rw [e, if_pos f, f]
theorem exp_key {N E i m : Nat} (h4 : N = 4 * E) (hp : 0 < E) : (i + m * E) % N = i % N ↔ m % 4 = 0 := by
  subst h4
  constructor
  · intro h
    have h6 := Nat.sub_mod_eq_zero_of_mod_eq h
    rw [Nat.add_sub_cancel_left, Nat.mul_mod_mul_right] at h6
    rcases Nat.mul_eq_zero.1 h6 with h7 | h7
    · exact h7
    · omega
  · intro h
    obtain ⟨c, hc⟩ : ∃ c, m = 4 * c := ⟨m / 4, by omega⟩
    rw [hc, show 4 * c * E = 4 * E * c by rw [Nat.mul_assoc, Nat.mul_comm c, ← Nat.mul_assoc], Nat.add_mul_mod_self_left]
theorem isSq_pow2 (i : Nat) : isSq (fpow 2 i) = decide (i % 2 = 0) := by
  have h4 := PP_four
  have h1 := E1_two
  have hp := E2_pos
  have key : ∀ m, fpow 2 (i + m * E2) = fpow 2 i ↔ m % 4 = 0 := fun m =>
    ⟨fun h => (exp_key h4 hp).1 (fpow2_inj h), fun h => fpow2_eq ((exp_key h4 hp).2 h)⟩
  have eA : rootA (fpow 2 i) = fpow 2 (i * E1) := by unfold rootA; rw [fpow_fpow]
  have em : i * E1 + i * E1 = i + i * E2 := by rw [← Nat.mul_add, ← Nat.two_mul, h1, Nat.mul_add, Nat.mul_one, Nat.add_comm]
  unfold isSq rootB
  rw [eA]
  generalize E1 = e at *
  generalize E2 = f at *
  have sA : fmul (fpow 2 (i * e)) (fpow 2 (i * e)) = fpow 2 (i + i * f) := by
    rw [← fpow_add, em]
  have sB : fmul (fmul (fpow 2 (i * e)) (fpow 2 f)) (fmul (fpow 2 (i * e)) (fpow 2 f)) = fpow 2 (i + (i + 2) * f) := by
    rw [← fpow_add, ← fpow_add, show i * e + f + (i * e + f) = i + (i + 2) * f by rw [Nat.add_mul]; omega]
  rw [sA, fpow_flow']
  by_cases hi : i % 4 = 0
  · rw [if_pos ((key i).2 hi), sA, decide_eq_true ((key i).2 hi), decide_eq_true (show i % 2 = 0 by omega)]
  · rw [if_neg (fun h => hi ((key i).1 h)), sB]
    by_cases h2 : (i + 2) % 4 = 0
    · rw [decide_eq_true ((key _).2 h2), decide_eq_true (show i % 2 = 0 by omega)]
    · rw [decide_eq_false (fun h => h2 ((key _).1 h)), decide_eq_false (show ¬ i % 2 = 0 by omega)]
end Go.Proofs.Ytnjjnlhaibpfnaa
