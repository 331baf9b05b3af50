/- The field of 2^255 - 19 elements: no divisors of 0, inverses, roots: plain laws. More of roots: the root of a square is one of the two, the even one. The field of 2^255 - 19 elements as a type, for laws of polynomials. The program's points are the curve's: plain laws. The ladder: laws. Every number is that of a point, of the curve or of its twist; so often the point, so often its number. Every number is that of a point; the laws of the ladder. Packs of points: plain laws. Steps by affine points: what is checked of each. Plain laws. -/
import Derived.Test.YtjiiccainfhgkaaPlainA
import Derived.Test.YtjiiccainfhgkaaEdwAll
namespace Go.Proofs.Ytjiiccainfhgkaa
set_option linter.unusedVariables false
set_option linter.unusedSimpArgs false
theorem PP_is : PP = 57896044618658097711785492504343953926634992332820282019728792003956564819949 := rfl
theorem PP_prime : Prime PP := prime_P
theorem PP_four : PP - 1 = 4 * E2 := by decide +kernel
theorem PP_two : 2 ≤ PP := by decide
theorem E2_pos : 0 < E2 := by decide
theorem E1_two : 2 * E1 = E2 + 1 := by decide +kernel
theorem PP_odd : PP % 2 = 1 := by decide +kernel
theorem two_ord : IsOrd PP 2 (PP - 1) := ord_P
theorem flow_zero_iff {a : Nat} : flow a = 0 ↔ PP ∣ a := by
  simp only [flow_def]
  exact Nat.dvd_iff_mod_eq_zero.symm
theorem fmul_zero_iff (a b : Nat) : fmul a b = 0 ↔ flow a = 0 ∨ flow b = 0 := by
  rw [flow_zero_iff, flow_zero_iff]
  simp only [fmul_def]
  rw [← Nat.dvd_iff_mod_eq_zero]
  exact ⟨PP_prime.dvd_mul, fun h => h.elim (fun h => Nat.dvd_trans h (Nat.dvd_mul_right a b)) (fun h => Nat.dvd_trans h (Nat.dvd_mul_left b a))⟩
theorem fmul_flow (a b : Nat) : flow (fmul a b) = fmul a b := flow_of (fmul_P a b)
theorem fpow_flow' (a b : Nat) : flow (fpow a b) = fpow a b := flow_of (fpow_P a b)
/-! ### All but 0 are powers of 2 -/
theorem fpow2_eq {i j : Nat} (h : i % (PP - 1) = j % (PP - 1)) : fpow 2 i = fpow 2 j := by
  have key : ∀ n, fpow 2 n = fpow 2 (n % (PP - 1)) := fun n => by
    have hd := Nat.mod_add_div n (PP - 1)
    conv => lhs; rw [← hd]
    rw [fpow_add]
    have : fpow 2 ((PP - 1) * (n / (PP - 1))) = 1 := by
      simp only [fpow_def]
      rw [pow_mod_mul, two_ord.2.1, Nat.one_pow, one_mod PP_two]
    rw [this, fmul_one, fpow_flow']
  rw [key i, key j, h]
theorem fpow2_inj {i j : Nat} (h : fpow 2 i = fpow 2 j) : i % (PP - 1) = j % (PP - 1) := by
  have hpos : 0 < PP - 1 := by have := PP_two; omega
  have e : fpow 2 (i % (PP - 1)) = fpow 2 (j % (PP - 1)) := by
    rw [fpow2_eq (i := i % (PP - 1)) (j := i) (Nat.mod_mod _ _), fpow2_eq (i := j % (PP - 1)) (j := j) (Nat.mod_mod _ _), h]
  simp only [fpow_def] at e
  exact ord_inj PP_two two_ord (Nat.mod_lt _ hpos) (Nat.mod_lt _ hpos) e
theorem is_pow2 {a : Nat} (h : flow a ≠ 0) : ∃ i, flow a = fpow 2 i := by
  have hlt := flow_P a
  obtain ⟨i, h1, h2⟩ := gen_all PP_two two_ord (flow a) (by omega) hlt
  refine ⟨i, ?_⟩
  rw [← h2, fpow_def]
theorem pow2_ne (i : Nat) : fpow 2 i ≠ 0 := by
  intro h
  simp only [fpow_def] at h
  have h1 : PP ∣ 2 ^ i := Nat.dvd_of_mod_eq_zero h
  have h2 := PP_prime.dvd_pow h1
  have := Nat.le_of_dvd (by decide) h2
  have : 2 < PP := by decide
  omega
theorem fpow_fpow (a m n : Nat) : fpow (fpow a m) n = fpow a (m * n) := by
  simp only [fpow_def]
  rw [pow_mod_mul]
theorem fpow_zero_base {n : Nat} (h : 0 < n) : fpow 0 n = 0 := by
  simp only [fpow_def]
  rw [Nat.zero_pow h, Nat.zero_mod]
/-! ### Inverses -/
theorem finv_flow (a : Nat) : finv (flow a) = finv a := by unfold finv; rw [fpow_flow]
theorem fmul_ff (a b : Nat) : fmul (flow a) (flow b) = fmul a b := by rw [fmul_flow_left, fmul_flow_right]
theorem finv_zero {a : Nat} (h : flow a = 0) : finv a = 0 := by
  rw [← finv_flow, h]
  exact fpow_zero_base (by decide)
theorem finv_pow2 (i : Nat) : finv (fpow 2 i) = fpow 2 (i * (PP - 2)) := by unfold finv; rw [fpow_fpow]
theorem fmul_finv {a : Nat} (h : flow a ≠ 0) : fmul a (finv a) = 1 := by
  obtain ⟨i, hi⟩ := is_pow2 h
  rw [← finv_flow, ← fmul_flow_left, hi, finv_pow2, ← fpow_add, ← fpow_zero 2]
  apply fpow2_eq
  rw [show i + i * (PP - 2) = (PP - 1) * i by
    have := PP_two
    rw [show PP - 1 = 1 + (PP - 2) by omega, Nat.add_mul, Nat.one_mul, Nat.mul_comm], Nat.mul_mod_right, Nat.zero_mod]
theorem finv_fmul (a b : Nat) : finv (fmul a b) = fmul (finv a) (finv b) := by
  unfold finv
  simp only [fpow_def]
  simp only [fmul_def]
  rw [← Nat.pow_mod, Nat.mul_pow, Nat.mul_mod]
theorem finv_finv (a : Nat) : finv (finv a) = flow a := by
  by_cases h : flow a = 0
  · rw [finv_zero h, h]; exact finv_zero (by rw [flow_of (by decide)])
  · obtain ⟨i, hi⟩ := is_pow2 h
    rw [← finv_flow a, hi, finv_pow2, finv_pow2]
    apply fpow2_eq
    have h2 := PP_two
    obtain ⟨m, hm⟩ : ∃ m, PP = m + 2 := ⟨PP - 2, by omega⟩
    rw [hm, show m + 2 - 2 = m by omega, show m + 2 - 1 = m + 1 by omega]
    have : i * m * m + 2 * i * (m + 1) = i + i * (m + 1) * (m + 1) := by
      simp only [Nat.mul_add, Nat.add_mul, Nat.mul_one, Nat.one_mul, Nat.mul_comm 2 i, Nat.mul_two]
      have e1 : i * 2 * m = i * m + i * m := by rw [Nat.mul_assoc, Nat.mul_comm 2 m, ← Nat.mul_assoc, Nat.mul_two]
      omega
    have h3 : (i * m * m + 2 * i * (m + 1)) % (m + 1) = (i + i * (m + 1) * (m + 1)) % (m + 1) := by rw [this]
    rwa [Nat.add_mul_mod_self_right, Nat.add_mul_mod_self_right] at h3
/-! ### Roots -/
theorem fneg_def (x : Nat) : fsub 0 x = (PP - x % PP) % PP := by
  simp only [fsub_def]
  rw [Nat.zero_mod, Nat.zero_add]
theorem fneg_add (x : Nat) : fadd (fsub 0 x) x = 0 := by rw [fsub_add]; exact flow_of (by decide)
theorem add_cancel {a b c : Nat} (ha : a < PP) (hb : b < PP) (h : fadd a c = fadd b c) : a = b := by
  have k : fadd (fadd a c) (fsub 0 c) = fadd (fadd b c) (fsub 0 c) := by rw [h]
  have z : ∀ x, x < PP → fadd (fadd x c) (fsub 0 c) = x := fun x hx => by
    rw [fadd_assoc, fadd_comm c, fneg_add]
    simp only [fadd_def]
    rw [Nat.add_zero, Nat.mod_eq_of_lt hx]
  rwa [z a ha, z b hb] at k
theorem fadd_zero (a : Nat) : fadd a 0 = flow a := by
  simp only [fadd_def]
  simp only [flow_def]
  rfl
theorem fmul_neg (a b : Nat) : fmul a (fsub 0 b) = fsub 0 (fmul a b) := by
  refine add_cancel (c := fmul a b) (fmul_P _ _) (fsub_P _ _) ?_
  rw [← fmul_add, fneg_add, fneg_add, fmul_comm]
  simp only [fmul_def]
  rw [Nat.zero_mul, Nat.zero_mod]
theorem fneg_neg (a : Nat) : fsub 0 (fsub 0 a) = flow a := by
  refine add_cancel (c := fsub 0 a) (fsub_P _ _) (flow_P _) ?_
  rw [fneg_add]
  simp only [flow_def, fadd_def, fsub_def]
  rw [Nat.mod_add_mod, Nat.zero_mod, Nat.zero_add, Nat.add_mod_mod]
  have h := Nat.mod_lt a (show 0 < PP by decide)
  have e := Nat.mod_add_div a PP
  generalize PP = p at *
  generalize a / p = q at *
  generalize a % p = r at *
  rw [show a + (p - r) = p + p * q by omega, Nat.add_mul_mod_self_left, Nat.mod_self]
theorem neg_sq (x : Nat) : fmul (fsub 0 x) (fsub 0 x) = fmul x x := by
  rw [fmul_neg, fmul_comm, fmul_neg, fneg_neg, fmul_flow]
theorem fneg_parity {x : Nat} (hx : x < PP) (h0 : x ≠ 0) : fsub 0 x = PP - x := by
  rw [fneg_def, Nat.mod_eq_of_lt hx, Nat.mod_eq_of_lt (by omega)]
theorem rootC_sq (a : Nat) : fmul (rootC a) (rootC a) = fmul (rootB a) (rootB a) := by
  unfold rootC; split
  · exact neg_sq _
  · rfl
theorem rootC_even (a : Nat) : rootC a % 2 = 0 := by
  unfold rootC; split
  · rename_i h
    have h1 := rootB_P a
    have h2 := PP_odd
    rw [fneg_parity h1 (by omega)]
    omega
  · omega
theorem isSq_iff {a : Nat} : isSq a = true ↔ fmul (rootB a) (rootB a) = flow a := by unfold isSq; exact decide_eq_true_iff
theorem isSq_flow (a : Nat) : isSq (flow a) = isSq a := by
  have e : flow (flow a) = flow a := flow_of (flow_P a)
  unfold isSq rootB rootA
  rw [fpow_flow, e]
theorem froot_flow (a : Nat) : froot (flow a) = froot a := by
  have e : flow (flow a) = flow a := flow_of (flow_P a)
  unfold froot rootC
  rw [isSq_flow]
  unfold rootB rootA
  rw [fpow_flow, e]
theorem isSq_zero : isSq 0 = true := by
  have e : rootA 0 = 0 := fpow_zero_base (by decide)
  have f : fmul 0 0 = flow 0 := by
    simp only [fmul_def, flow_def]
  rw [isSq_iff]
  unfold rootB
  rw [e, if_pos f, f]
theorem exp_key {N E i m : Nat} (h4 : N = 4 * E) (hp : 0 < E) : (i + m * E) % N = i % N ↔ m % 4 = 0 := by
  subst h4
  constructor
  · intro h
    have h6 := Nat.sub_mod_eq_zero_of_mod_eq h
    rw [Nat.add_sub_cancel_left, Nat.mul_mod_mul_right] at h6
    rcases Nat.mul_eq_zero.1 h6 with h7 | h7
    · exact h7
    · omega
  · intro h
    obtain ⟨c, hc⟩ : ∃ c, m = 4 * c := ⟨m / 4, by omega⟩
    rw [hc, show 4 * c * E = 4 * E * c by rw [Nat.mul_assoc, Nat.mul_comm c, ← Nat.mul_assoc], Nat.add_mul_mod_self_left]
theorem isSq_pow2 (i : Nat) : isSq (fpow 2 i) = decide (i % 2 = 0) := by
  have h4 := PP_four
  have h1 := E1_two
  have hp := E2_pos
  have key : ∀ m, fpow 2 (i + m * E2) = fpow 2 i ↔ m % 4 = 0 := fun m =>
    ⟨fun h => (exp_key h4 hp).1 (fpow2_inj h), fun h => fpow2_eq ((exp_key h4 hp).2 h)⟩
  have eA : rootA (fpow 2 i) = fpow 2 (i * E1) := by unfold rootA; rw [fpow_fpow]
  have em : i * E1 + i * E1 = i + i * E2 := by rw [← Nat.mul_add, ← Nat.two_mul, h1, Nat.mul_add, Nat.mul_one, Nat.add_comm]
  unfold isSq rootB
  rw [eA]
  generalize E1 = e at *
  generalize E2 = f at *
  have sA : fmul (fpow 2 (i * e)) (fpow 2 (i * e)) = fpow 2 (i + i * f) := by
    rw [← fpow_add, em]
  have sB : fmul (fmul (fpow 2 (i * e)) (fpow 2 f)) (fmul (fpow 2 (i * e)) (fpow 2 f)) = fpow 2 (i + (i + 2) * f) := by
    rw [← fpow_add, ← fpow_add, show i * e + f + (i * e + f) = i + (i + 2) * f by rw [Nat.add_mul]; omega]
  rw [sA, fpow_flow']
  by_cases hi : i % 4 = 0
  · rw [if_pos ((key i).2 hi), sA, decide_eq_true ((key i).2 hi), decide_eq_true (show i % 2 = 0 by omega)]
  · rw [if_neg (fun h => hi ((key i).1 h)), sB]
    by_cases h2 : (i + 2) % 4 = 0
    · rw [decide_eq_true ((key _).2 h2), decide_eq_true (show i % 2 = 0 by omega)]
    · rw [decide_eq_false (fun h => h2 ((key _).1 h)), decide_eq_false (show ¬ i % 2 = 0 by omega)]
end Go.Proofs.Ytjiiccainfhgkaa
namespace Go.Proofs.Ytjiiccainfhgkaa
set_option linter.unusedVariables false
theorem sq_sq (a : Nat) : isSq (fmul a a) = true := by
  by_cases h : flow a = 0
  · rw [(fmul_zero_iff a a).2 (.inl h)]; exact isSq_zero
  · obtain ⟨i, hi⟩ := is_pow2 h
    rw [← fmul_ff, hi, ← fpow_add, isSq_pow2]
    exact decide_eq_true (by omega)
theorem root_sq {a : Nat} (h : isSq a = true) : fmul (froot a) (froot a) = flow a := by
  unfold froot
  rw [if_pos h, rootC_sq]
  exact isSq_iff.1 h
theorem root_even (a : Nat) : froot a % 2 = 0 := by
  unfold froot; split
  · exact rootC_even a
  · rfl
theorem froot_flow' (a : Nat) : flow (froot a) = froot a := flow_of (froot_P a)
theorem root_two (a : Nat) : froot (fmul a a) = flow a ∨ froot (fmul a a) = fsub 0 a := by
  have h := root_sq (sq_sq a)
  rw [fmul_flow] at h
  generalize hr : froot (fmul a a) = r at *
  have hrP : r < PP := by rw [← hr]; exact froot_P _
  have e : fmul (fadd r a) (fsub r a) = 0 := by
    refine add_cancel (c := fmul (fadd r a) a) (fmul_P _ _) (by decide) ?_
    rw [← fmul_add, fsub_add, fmul_flow_right, fmul_comm (fadd r a) r, fmul_add, h, fmul_comm (fadd r a) a, fmul_add, fmul_comm a r, fadd_comm 0, fadd_zero, flow_of (fadd_P _ _), fadd_comm]
  rcases (fmul_zero_iff _ _).1 e with h1 | h1
  · right
    rw [flow_of (fadd_P _ _)] at h1
    refine add_cancel (c := a) hrP (fsub_P _ _) ?_
    rw [h1, fneg_add]
  · left
    rw [flow_of (fsub_P _ _)] at h1
    have := fsub_add r a
    rw [h1, fadd_comm, fadd_zero, flow_of hrP] at this
    exact this.symm
end Go.Proofs.Ytjiiccainfhgkaa
namespace Go.Proofs.Ytjiiccainfhgkaa
set_option linter.unusedVariables false
instance ne_PP : NeZero PP := ⟨by decide⟩
abbrev F : Type := Fin PP
def toF (n : Nat) : F := Fin.ofNat PP n
theorem toF_val (n : Nat) : (toF n).val = flow n := by rw [flow_def]; rfl
theorem toF_of (a : F) : toF a.val = a := by apply Fin.ext; rw [toF_val, flow_of a.isLt]
theorem toF_eq {m n : Nat} : toF m = toF n ↔ flow m = flow n := by
  rw [← toF_val, ← toF_val]; exact ⟨fun h => by rw [h], fun h => Fin.ext h⟩
theorem toF_inj {m n : Nat} (hm : m < PP) (hn : n < PP) (h : toF m = toF n) : m = n := by
  rw [toF_eq, flow_of hm, flow_of hn] at h; exact h
theorem toF_mul (a b : Nat) : toF (fmul a b) = toF a * toF b := by
  apply Fin.ext
  rw [toF_val, fmul_flow, Fin.val_mul, toF_val, toF_val, ← fmul_def, fmul_ff]
theorem toF_add (a b : Nat) : toF (fadd a b) = toF a + toF b := by
  apply Fin.ext
  rw [toF_val, flow_of (fadd_P _ _), Fin.val_add, toF_val, toF_val]
  simp only [fadd_def, flow_def]
  rw [← Nat.add_mod]
theorem toF_flow (a : Nat) : toF (flow a) = toF a := by rw [toF_eq, flow_of (flow_P a)]
theorem toF_zero : toF 0 = 0 := rfl
theorem toF_one : toF 1 = 1 := rfl
theorem toF_sub (a b : Nat) : toF (fsub a b) = toF a - toF b := by
  have h := fsub_add a b
  have h2 := congrArg toF h
  rw [toF_add, toF_flow] at h2
  rw [← h2]
  generalize toF (fsub a b) = x
  generalize toF b = y
  grind
theorem F_mul_zero {a b : F} (h : a * b = 0) : a = 0 ∨ b = 0 := by
  rw [← toF_of a, ← toF_of b, ← toF_mul, ← toF_zero, toF_eq, fmul_flow, flow_of (show 0 < PP by decide), fmul_zero_iff] at h
  rcases h with h | h
  · left; rw [flow_of a.isLt] at h; exact Fin.ext h
  · right; rw [flow_of b.isLt] at h; exact Fin.ext h
theorem F_cancel {a b c : F} (ha : a ≠ 0) (h : a * b = a * c) : b = c := by
  have : a * (b - c) = 0 := by grind
  rcases F_mul_zero this with h1 | h1
  · exact absurd h1 ha
  · grind
def Finv (a : F) : F := toF (finv a.val)
theorem toF_inv (n : Nat) : toF (finv n) = Finv (toF n) := by unfold Finv; rw [toF_val, finv_flow]
theorem mul_Finv {a : F} (h : a ≠ 0) : a * Finv a = 1 := by
  have h1 : flow a.val ≠ 0 := by
    rw [flow_of a.isLt]; intro h2; exact h (Fin.ext h2)
  have h2 := congrArg toF (fmul_finv h1)
  rw [toF_mul, toF_of] at h2
  exact h2
theorem Finv_zero : Finv 0 = 0 := by
  unfold Finv
  rw [finv_zero (by rw [flow_of]; rfl; decide), toF_zero]
theorem Finv_uniq {a b : F} (h : a * b = 1) : Finv a = b := by
  have ha : a ≠ 0 := fun h0 => by
    rw [h0] at h
    have : (0 : F) = 1 := by grind
    exact absurd (congrArg Fin.val this) (by decide)
  exact F_cancel ha ((mul_Finv ha).trans h.symm)
theorem F_one_ne : (1 : F) ≠ 0 := fun h => absurd (congrArg Fin.val h) (by decide)
theorem F_two_ne : (2 : F) ≠ 0 := fun h => absurd (congrArg Fin.val h) (by decide)
/-! ### Whole numbers as such numbers -/
def zF (z : Int) : F := ⟨(z % (PP : Int)).toNat, by
  have h : 0 < (PP : Int) := by decide
  have := Int.emod_nonneg z (Int.ne_of_gt h)
  have := Int.emod_lt_of_pos z h
  omega⟩
theorem zF_val (z : Int) : ((zF z).val : Int) = z % (PP : Int) := by
  have h : 0 < (PP : Int) := by decide
  have := Int.emod_nonneg z (Int.ne_of_gt h)
  show (((z % (PP : Int)).toNat : Nat) : Int) = _
  omega
theorem F_ext_int {a b : F} (h : (a.val : Int) = (b.val : Int)) : a = b := Fin.ext (by omega)
theorem zF_mul (x y : Int) : zF (x * y) = zF x * zF y := by
  apply F_ext_int
  rw [Fin.val_mul, zF_val, Int.natCast_emod, Int.natCast_mul, zF_val, zF_val, ← Int.mul_emod]
theorem zF_add (x y : Int) : zF (x + y) = zF x + zF y := by
  apply F_ext_int
  rw [Fin.val_add, zF_val, Int.natCast_emod, Int.natCast_add, zF_val, zF_val, ← Int.add_emod]
theorem zF_one : (1 : F) = zF 1 := by
  apply F_ext_int
  rw [zF_val]
  decide
theorem zF_zero : (0 : F) = zF 0 := by
  apply F_ext_int
  rw [zF_val]
  decide
theorem zF_sub (x y : Int) : zF (x - y) = zF x - zF y := by
  have h : zF (x - y) + zF y = zF x := by rw [← zF_add]; congr 1; omega
  rw [← h]
  generalize zF (x - y) = u
  generalize zF y = v
  grind
theorem zF_surj (a : F) : ∃ z, zF z = a := ⟨(a.val : Int), by
  apply F_ext_int
  rw [zF_val, Int.emod_eq_of_lt (by omega) (by have := a.isLt; omega)]⟩
/-- A number whose half power is not 1 is no square. -/
theorem nonsq {n : Nat} (h0 : flow n ≠ 0) (h : qpow PP n (2 * E2) ≠ 1) (w : F) : w * w ≠ toF n := by
  intro hw
  rw [← toF_of w, ← toF_mul, toF_eq, fmul_flow] at hw
  apply h
  rw [qpow_is, ← fpow_def, ← fpow_flow, ← hw]
  have hw0 : flow w.val ≠ 0 := fun h1 => h0 (by rw [← hw]; exact (fmul_zero_iff _ _).2 (.inl h1))
  obtain ⟨i, hi⟩ := is_pow2 hw0
  rw [← fmul_ff, hi, ← fpow_add, fpow_fpow, ← fpow_zero 2]
  apply fpow2_eq
  rw [PP_four, show (i + i) * (2 * E2) = 4 * E2 * i by rw [← Nat.two_mul, Nat.mul_mul_mul_comm, show 2 * 2 = 4 by rfl, Nat.mul_comm i E2, Nat.mul_assoc], Nat.mul_mod_right, Nat.zero_mod]
end Go.Proofs.Ytjiiccainfhgkaa
namespace Go.Proofs.Ytjiiccainfhgkaa
set_option linter.unusedVariables false
def K0 : Fl PP := ⟨Finv, fun _ h => mul_Finv h, fun _ _ h => F_mul_zero h, F_one_ne, F_two_ne⟩
/-- A root of -1. -/
def rootM : Nat := 19681161376707505956807079304988542015446066515923890162744021073123829784752
theorem DD_nonsq (w : F) : w * w ≠ toF DD := nonsq (n := DD) (by rw [flow_def]; decide +kernel) (by decide +kernel) w
theorem rootM_sq : toF rootM * toF rootM = 0 - 1 := by decide +kernel
theorem rootM_ne : toF rootM ≠ 0 := by decide +kernel
def E0 : Ed K0 := ⟨0 - 1, toF DD, toF rootM, rootM_sq, rootM_ne, DD_nonsq⟩
def Pt.f (p : Pt) : P2 PP := ⟨toF p.x, toF p.y⟩
def Pt.red (p : Pt) : Prop := p.x < PP ∧ p.y < PP
theorem Pt.red.lt {p : Pt} (h : p.red) : p.lt := ⟨Nat.lt_trans h.1 PP_lt, Nat.lt_trans h.2 PP_lt⟩
theorem Pt.eq_of {p q : Pt} (hp : p.red) (hq : q.red) (h : p.f = q.f) : p = q := by
  obtain ⟨x, y⟩ := p
  obtain ⟨u, v⟩ := q
  have hx := toF_inj hp.1 hq.1 (congrArg P2.x h)
  have hy := toF_inj hp.2 hq.2 (congrArg P2.y h)
  dsimp only at hx hy
  rw [hx, hy]
theorem on_iff_id {n : Nat} [NeZero n] (d x y : Fin n) : (y * y - x * x = 1 + d * (x * x * (y * y))) ↔ ((0 - 1) * x * x + y * y = 1 + d * x * x * y * y) := by
  have e1 : y * y - x * x = (0 - 1) * x * x + y * y := by grind
  have e2 : 1 + d * (x * x * (y * y)) = 1 + d * x * x * y * y := by grind
  rw [e1, e2]
theorem red_iff {a : Nat} : a = flow a ↔ a < PP := ⟨fun h => h ▸ flow_P a, fun h => (flow_of h).symm⟩
theorem on_iff (p : Pt) : p.on ↔ p.red ∧ E0.on p.f := by
  have key : p.eqn ↔ E0.on p.f := by
    unfold Pt.eqn Ed.on
    show _ ↔ (0 - 1) * toF p.x * toF p.x + toF p.y * toF p.y = 1 + toF DD * toF p.x * toF p.x * toF p.y * toF p.y
    rw [← on_iff_id]
    constructor
    · intro h
      have := congrArg toF h
      rw [toF_sub, toF_mul, toF_mul, toF_add, toF_mul, toF_mul, toF_mul, toF_mul, toF_one] at this
      exact this
    · intro h
      apply toF_inj (fsub_P _ _) (fadd_P _ _)
      rw [toF_sub, toF_mul, toF_mul, toF_add, toF_mul, toF_mul, toF_mul, toF_mul, toF_one]
      exact h
  unfold Pt.on
  rw [red_iff, red_iff, key]
  exact ⟨fun ⟨a, b, c⟩ => ⟨⟨a, b⟩, c⟩, fun ⟨⟨a, b⟩, c⟩ => ⟨a, b, c⟩⟩
theorem Pt.on.red {p : Pt} (h : p.on) : p.red := ((on_iff p).1 h).1
theorem Pt.on.f {p : Pt} (h : p.on) : E0.on p.f := ((on_iff p).1 h).2
def Qd.rp (q : Qd) (P : P2 PP) : Prop := Rep (toF q.x) (toF q.y) (toF q.z) (toF q.t) P
theorem one_mul_id {n : Nat} [NeZero n] (x : Fin n) : x = x * 1 := by grind
theorem quad_rp (p : Pt) : p.quad.rp p.f := ⟨F_one_ne, one_mul_id _, one_mul_id _, by
  show toF (fmul p.x p.y) = toF p.x * toF p.y * toF 1
  rw [toF_mul, toF_one]; exact one_mul_id _⟩
theorem plus_rp {q r : Qd} {P Q : P2 PP} (hq : q.rp P) (hr : r.rp Q) (oP : E0.on P) (oQ : E0.on Q) : (q.plus r).rp (E0.add P Q) := by
  have h := Rep.plus E0 rfl hq hr oP oQ rfl rfl rfl rfl
  unfold Qd.rp Qd.plus
  dsimp only
  simp only [toF_mul, toF_add, toF_sub]
  exact h
theorem mul_inv_id {n : Nat} [NeZero n] {x z i : Fin n} (h : z * i = 1) : x * z * i = x := by
  have : x * z * i = x * (z * i) := by grind
  rw [this, h]; grind
theorem point_f {q : Qd} {P : P2 PP} (h : q.rp P) : q.point.f = P := by
  have hi := mul_Finv h.z0
  apply P2.ext'
  · show toF (fmul q.x (finv q.z)) = P.x
    rw [toF_mul, toF_inv, h.x]; exact mul_inv_id hi
  · show toF (fmul q.y (finv q.z)) = P.y
    rw [toF_mul, toF_inv, h.y]; exact mul_inv_id hi
theorem point_red (q : Qd) : q.point.red := ⟨fmul_P _ _, fmul_P _ _⟩
theorem zero_f : Pt.zero.f = P2.zero := rfl
theorem zero_red : Pt.zero.red := ⟨by decide, by decide⟩
theorem zero_on : Pt.zero.on := (on_iff _).2 ⟨zero_red, by rw [zero_f]; exact E0.zero_on⟩
theorem add_f_pt {p q : Pt} (hp : p.on) (hq : q.on) : (p.add q).f = E0.add p.f q.f := point_f (plus_rp (quad_rp p) (quad_rp q) hp.f hq.f)
theorem add_red (p q : Pt) : (p.add q).red := point_red _
theorem add_on {p q : Pt} (hp : p.on) (hq : q.on) : (p.add q).on := (on_iff _).2 ⟨add_red p q, by rw [add_f_pt hp hq]; exact E0.add_on hp.f hq.f⟩
theorem neg_f (p : Pt) : p.neg.f = p.f.neg := by
  apply P2.ext'
  · show toF (fsub 0 p.x) = 0 - toF p.x
    rw [toF_sub, toF_zero]
  · rfl
theorem neg_red {p : Pt} (h : p.red) : p.neg.red := ⟨fsub_P _ _, h.2⟩
theorem neg_on {p : Pt} (h : p.on) : p.neg.on := (on_iff _).2 ⟨neg_red h.red, by rw [neg_f]; exact E0.neg_on h.f⟩
theorem rep_rp {p : Pt} (hp : p.on) (m : Nat) : ∀ j, j ≤ blen m → (p.quad.rep m j).rp (E0.smul (m / 2 ^ (blen m - j)) p.f)
  | 0, _ => by
    rw [Nat.sub_zero, Nat.div_eq_of_lt (blen_le.1 (Nat.le_refl _))]
    show Pt.zero.quad.rp P2.zero
    rw [← zero_f]
    exact quad_rp _
  | j + 1, hj => by
    have ih := rep_rp hp m j (by omega)
    have e : blen m - j = blen m - (j + 1) + 1 := by omega
    rw [e] at ih
    have d : m / 2 ^ (blen m - (j + 1) + 1) = m / 2 ^ (blen m - (j + 1)) / 2 := by rw [Nat.pow_succ, Nat.div_div_eq_div_mul]
    rw [d] at ih
    have on' := E0.smul_on hp.f (m / 2 ^ (blen m - (j + 1)) / 2)
    have h2 := plus_rp ih ih on' on'
    rw [← E0.smul_double hp.f] at h2
    unfold Qd.rep
    dsimp only
    generalize m / 2 ^ (blen m - (j + 1)) = k at *
    split
    · rename_i h1
      have h3 := plus_rp h2 (quad_rp p) (E0.smul_on hp.f _) hp.f
      rw [show E0.add (E0.smul (2 * (k / 2)) p.f) p.f = E0.smul (2 * (k / 2) + 1) p.f from rfl, show 2 * (k / 2) + 1 = k by omega] at h3
      exact h3
    · rename_i h1
      rw [show 2 * (k / 2) = k by omega] at h2
      exact h2
theorem times_f {p : Pt} (hp : p.on) (m : Nat) : (p.times m).f = E0.smul m p.f := by
  have h := rep_rp hp m (blen m) (Nat.le_refl _)
  rw [Nat.sub_self, Nat.pow_zero, Nat.div_one] at h
  exact point_f h
theorem times_red (p : Pt) (m : Nat) : (p.times m).red := point_red _
theorem times_on {p : Pt} (hp : p.on) (m : Nat) : (p.times m).on := (on_iff _).2 ⟨times_red p m, by rw [times_f hp]; exact E0.smul_on hp.f m⟩
/-! ### The group -/
section
variable {p q r : Pt} (hp : p.on) (hq : q.on) (hr : r.on)
include hp hq in
theorem pt_comm : p.add q = q.add p := Pt.eq_of (add_red _ _) (add_red _ _) (by rw [add_f_pt hp hq, add_f_pt hq hp, E0.add_comm])
include hp hq hr in
theorem pt_assoc : (p.add q).add r = p.add (q.add r) := Pt.eq_of (add_red _ _) (add_red _ _) (by
  rw [add_f_pt (add_on hp hq) hr, add_f_pt hp hq, add_f_pt hp (add_on hq hr), add_f_pt hq hr, E0.add_assoc hp.f hq.f hr.f])
include hp in
theorem pt_zero : p.add Pt.zero = p := Pt.eq_of (add_red _ _) hp.red (by rw [add_f_pt hp zero_on, zero_f, E0.add_zero hp.f])
include hp in
theorem pt_neg : p.add p.neg = Pt.zero := Pt.eq_of (add_red _ _) zero_red (by rw [add_f_pt hp (neg_on hp), neg_f, E0.add_neg hp.f, zero_f])
include hp in
theorem pt_times_add (m k : Nat) : p.times (m + k) = (p.times m).add (p.times k) := Pt.eq_of (times_red _ _) (add_red _ _) (by
  rw [times_f hp, add_f_pt (times_on hp m) (times_on hp k), times_f hp, times_f hp, E0.smul_add hp.f])
include hp hq in
theorem pt_times_dist (m : Nat) : (p.add q).times m = (p.times m).add (q.times m) := Pt.eq_of (times_red _ _) (add_red _ _) (by
  rw [times_f (add_on hp hq), add_f_pt (times_on hp m) (times_on hq m), times_f hp, times_f hq, add_f_pt hp hq, E0.smul_dist hp.f hq.f])
include hp in
theorem pt_times_times (m k : Nat) : (p.times k).times m = p.times (m * k) := Pt.eq_of (times_red _ _) (times_red _ _) (by
  rw [times_f (times_on hp k), times_f hp, times_f hp, E0.smul_smul hp.f])
include hp in
theorem pt_times_one : p.times 1 = p := Pt.eq_of (times_red _ _) hp.red (by rw [times_f hp, E0.smul_one hp.f])
include hp in
theorem pt_times_zero : p.times 0 = Pt.zero := Pt.eq_of (times_red _ _) zero_red (by rw [times_f hp]; rfl)
end
/-! ### The base -/
theorem base_red : Pt.base.red := ⟨by decide, by decide⟩
theorem base_on : Pt.base.on := by
  refine ⟨red_iff.2 base_red.1, red_iff.2 base_red.2, ?_⟩
  unfold Pt.eqn
  simp only [fsub_def, fmul_def, fadd_def]
  decide +kernel
end Go.Proofs.Ytjiiccainfhgkaa
namespace Go.Proofs.Ytjiiccainfhgkaa
set_option linter.unusedVariables false
def root2D : Nat := 55487632915927625549282413919184614932259505768049324239291840100650878933168
def iroot2D : Nat := 3249481024807424625215171383344991435676005188354689078848604308279292361375
theorem neg2_nonsq (w : F) : w * w ≠ toF (PP - 2) := nonsq (n := PP - 2) (by rw [flow_def]; decide +kernel) (by decide +kernel) w
theorem root2D_sq : toF root2D * toF root2D = toF (2 * DD) := by decide +kernel
theorem root2D_ne : toF root2D ≠ 0 := by decide +kernel
/-- The twist. -/
def ET : Ed K0 := ⟨toF (2 * DD), toF (PP - 2), toF root2D, root2D_sq, root2D_ne, neg2_nonsq⟩
abbrev cL : F := toF 121665
theorem mo0 : Mo E0 1 cL := ⟨one_sq, .inl ⟨rfl, by decide +kernel⟩⟩
theorem mo1 : Mo ET (0 - 1) cL := ⟨neg_one_sq, .inr ⟨rfl, by decide +kernel⟩⟩
theorem Mo.two {n : Nat} [NeZero n] {K : Fl n} {E : Ed K} {s c : Fin n} (M : Mo E s c) : s = 1 ∨ s = 0 - 1 := M.hc.elim (fun h => .inl h.1) (fun h => .inr h.1)
def Kq (s : F) (q : Pt) (p : P2 PP) : Prop := Kp s (toF q.x) (toF q.y) p
section
variable {E : Ed K0} {s : F}
theorem kq_twice (M : Mo E s cL) {q : Pt} {p : P2 PP} (h : Kq s q p) (hp : E.on p) : Kq s q.twice (E.add p p) := by
  have := Kp.twice M h hp
  unfold Kq Pt.twice
  dsimp only
  simp only [toF_mul, toF_add, toF_sub]
  exact this
theorem kq_joined (M : Mo E s cL) {q r : Pt} {u : Nat} {p t : P2 PP} (h : Kq s q p) (h' : Kq s r t) (hp : E.on p) (ht : E.on t) (hu : Kp s (toF u) 1 (E.add t p.neg)) (u0 : toF u ≠ 0) : Kq s (q.joined r u) (E.add p t) := by
  have := Kp.joined M.ss M.two h h' hp ht hu u0
  unfold Kq Pt.joined
  dsimp only
  simp only [toF_mul, toF_add, toF_sub]
  exact this
end
section
variable {n : Nat} [NeZero n] {K : Fl n} (E : Ed K)
theorem Ed.neg_neg_add {P Q : P2 n} (hP : E.on P) (hQ : E.on Q) : E.add Q (E.add Q P).neg = P.neg := by
  have hS := E.add_on hQ hP
  refine E.cancel_right (E.add_on hQ (E.neg_on hS)) (E.neg_on hP) hS ?_
  rw [E.add_assoc hQ (E.neg_on hS) hS, E.add_comm (E.add Q P).neg, E.add_neg hS, E.add_zero hQ, E.add_comm Q P, ← E.add_assoc (E.neg_on hP) hP hQ, E.add_comm P.neg P, E.add_neg hP, E.zero_add hQ]
theorem Ed.diff {P Q : P2 n} (hP : E.on P) (hQ : E.on Q) : E.add (E.add Q P) Q.neg = P := by
  rw [E.add_comm Q P, E.add_assoc hP hQ (E.neg_on hQ), E.add_neg hQ, E.add_zero hP]
theorem kp_zero (K : Fl n) (s : Fin n) : Kp s 1 0 P2.zero := ⟨by unfold P2.zero; dsimp only; grind, fun h => K.one_ne h.1⟩
theorem kp_neg {s u : Fin n} {P : P2 n} (h : Kp s u 1 P) : Kp s u 1 P.neg := ⟨h.eq, h.ne⟩
end
theorem LS_kq {E : Ed K0} {s : F} (M : Mo E s cL) {k u : Nat} (hk : k < T256) {P : P2 PP} (hP : E.on P) (hu : Kp s (toF u) 1 P) (u0 : toF u ≠ 0) :
    ∀ d, d ≤ 256 → Kq s (LS k u d).1 (E.smul (k / 2 ^ (256 - d)) P) ∧ Kq s (LS k u d).2 (E.smul (k / 2 ^ (256 - d) + 1) P)
  | 0, _ => by
    rw [Nat.sub_zero, Nat.div_eq_of_lt (by rw [← T256_eq]; exact hk)]
    refine ⟨?_, ?_⟩
    · show Kp s (toF 1) (toF 0) P2.zero
      rw [toF_one, toF_zero]
      exact kp_zero K0 s
    · show Kp s (toF u) (toF 1) (E.smul 1 P)
      rw [toF_one, E.smul_one hP]
      exact hu
  | d + 1, hd => by
    obtain ⟨h1, h2⟩ := LS_kq M hk hP hu u0 d (by omega)
    have e : 256 - d = 256 - (d + 1) + 1 := by omega
    have e2 : 255 - d = 256 - (d + 1) := by omega
    have dd : k / 2 ^ (256 - d) = k / 2 ^ (256 - (d + 1)) / 2 := by rw [e, Nat.pow_succ, Nat.div_div_eq_div_mul]
    rw [dd] at h1 h2
    show Kq s (lstep u (k / 2 ^ (255 - d) % 2) (LS k u d)).1 _ ∧ Kq s (lstep u (k / 2 ^ (255 - d) % 2) (LS k u d)).2 _
    rw [e2]
    generalize k / 2 ^ (256 - (d + 1)) = m at *
    generalize LS k u d = st at *
    have o1 := E.smul_on hP (m / 2)
    have o2 := E.smul_on hP (m / 2 + 1)
    unfold lstep
    split
    · rename_i hb
      have k1 := kq_joined M h2 h1 o2 o1 (u := u) (by
        show Kp s (toF u) 1 (E.add (E.smul (m / 2) P) (E.add (E.smul (m / 2) P) P).neg)
        rw [E.neg_neg_add hP o1]
        exact kp_neg hu) u0
      have k2 := kq_twice M h2 o2
      rw [← E.smul_add hP, show m / 2 + 1 + m / 2 = m by omega] at k1
      rw [← E.smul_add hP, show m / 2 + 1 + (m / 2 + 1) = m + 1 by omega] at k2
      exact ⟨k1, k2⟩
    · rename_i hb
      have k1 := kq_joined M h1 h2 o1 o2 (u := u) (by
        show Kp s (toF u) 1 (E.add (E.add (E.smul (m / 2) P) P) (E.smul (m / 2) P).neg)
        rw [E.diff hP o1]
        exact hu) u0
      have k2 := kq_twice M h1 o1
      rw [← E.smul_add hP, show m / 2 + (m / 2 + 1) = m + 1 by omega] at k1
      rw [← E.smul_add hP, show m / 2 + m / 2 = m by omega] at k2
      exact ⟨k2, k1⟩
/-! ### The number of a point -/
def plS (s : F) (p : P2 PP) : F := s * (1 + p.y) * Finv (1 - p.y)
section
variable {n : Nat} [NeZero n]
theorem val_id {s l X Z y i j : Fin n} (ss : s * s = 1) (hX : X = l * (1 + y)) (hZ : Z = s * l * (1 - y)) (hi : (1 - y) * i = 1) (hj : Z * j = 1) : Z * (X * j) = Z * (s * (1 + y) * i) := by
  have e1 : Z * (X * j) = X * (Z * j) := by clear ss hX hZ hi hj; grind
  rw [e1, hj, hZ]
  have e2 : s * l * (1 - y) * (s * (1 + y) * i) = s * s * (l * (1 + y)) * ((1 - y) * i) := by clear ss hX hZ hi hj e1; grind
  rw [e2, ss, hi, hX]
  clear ss hX hZ hi hj e1 e2
  grind
theorem kpu_id {s y i : Fin n} (ss : s * s = 1) (hi : (1 - y) * i = 1) : s * (s * (1 + y) * i) * (1 - y) = 1 * (1 + y) := by
  have e1 : s * (s * (1 + y) * i) * (1 - y) = s * s * (1 + y) * ((1 - y) * i) := by clear ss hi; grind
  rw [e1, ss, hi]; clear ss hi e1; grind
theorem mz1 (x : Fin n) : x * 0 = 0 := by grind
theorem mz2 (x : Fin n) : 0 * x = 0 := by grind
theorem sub_self0 (x : Fin n) : x - x = 0 := by grind
theorem one_sub_zero {y : Fin n} (h : 1 - y = 0) : y = 1 := by grind
theorem one_add_zero {y : Fin n} (h : 1 + y = 0) : y = 0 - 1 := by grind
theorem neg_add_one : (1 : Fin n) + (0 - 1) = 0 := by grind
end
theorem kp_val {s X Z : F} {p : P2 PP} (ss : s * s = 1) (h : Kp s X Z p) : X * Finv Z = plS s p := by
  obtain ⟨l, l0, hX, hZ⟩ := h.scale K0 ss
  have s0 : s ≠ 0 := fun h0 => by rw [h0, mz1] at ss; exact F_one_ne ss.symm
  unfold plS
  by_cases hy : 1 - p.y = 0
  · rw [hy, mz1] at hZ
    rw [hZ, hy, Finv_zero, mz1, mz1]
  · have hz : Z ≠ 0 := by rw [hZ]; exact K0.ne_mul (K0.ne_mul s0 l0) hy
    exact F_cancel hz (val_id ss hX hZ (mul_Finv hy) (mul_Finv hz))
theorem kp_of {s : F} {p : P2 PP} (ss : s * s = 1) (h : plS s p ≠ 0) : Kp s (plS s p) 1 p := by
  have hy : 1 - p.y ≠ 0 := fun h0 => h (by unfold plS; rw [h0, Finv_zero, mz1])
  exact ⟨kpu_id ss (mul_Finv hy), fun h1 => F_one_ne h1.2⟩
/-! ### Where the number is 0 -/
def Sm (p : P2 PP) : Prop := p.x = 0 ∧ (p.y = 1 ∨ p.y = 0 - 1)
section
variable {n : Nat} [NeZero n] {K : Fl n}
theorem xz_id {a d x y : Fin n} (h : a * x * x + y * y = 1 + d * x * x * y * y) (hy : y * y = 1) : (a - d) * (x * x) = 0 := by grind
theorem Ed.x_zero (E : Ed K) {p : P2 n} (h : E.on p) (hy : p.y * p.y = 1) : p.x = 0 := by
  have h1 := (K.mul_zero _ _ (xz_id h hy)).resolve_left E.ad_ne
  exact (K.mul_zero _ _ h1).elim id id
theorem sm_id1 {a d y z : Fin n} : y * z * (1 - d * 0 * 0 * y * z) = y * z - a * 0 * 0 := by grind
theorem sm_id2 {d y z : Fin n} : 0 * (1 + d * 0 * 0 * y * z) = 0 * z + y * 0 := by grind
theorem Ed.add_sm (E : Ed K) {p q : P2 n} (hp : E.on p) (hq : E.on q) (h : p.x = 0) (k : q.x = 0) : E.add p q = ⟨0, p.y * q.y⟩ := by
  refine E.add_of hp hq ?_ ?_
  · unfold Ed.dl; dsimp only; rw [h, k]; exact sm_id2
  · unfold Ed.dl; dsimp only; rw [h, k]; exact sm_id1
theorem pm_mul {y z : Fin n} (h : y = 1 ∨ y = 0 - 1) (k : z = 1 ∨ z = 0 - 1) : y * z = 1 ∨ y * z = 0 - 1 := by
  rcases h with rfl | rfl <;> rcases k with rfl | rfl
  · left; grind
  · right; grind
  · right; grind
  · left; grind
theorem pm_sq {y : Fin n} (h : y = 1 ∨ y = 0 - 1) : y * y = 1 := by rcases h with rfl | rfl <;> grind
end
theorem sm_smul {E : Ed K0} {P : P2 PP} (hP : E.on P) (h : Sm P) : ∀ k, Sm (E.smul k P)
  | 0 => ⟨rfl, .inl rfl⟩
  | k + 1 => by
    have ih := sm_smul hP h k
    rw [Ed.smul, E.add_sm (E.smul_on hP k) hP ih.1 h.1]
    exact ⟨rfl, pm_mul ih.2 h.2⟩
theorem sm_pl {s : F} {p : P2 PP} (h : Sm p) : plS s p = 0 := by
  unfold plS
  rcases h.2 with h1 | h1
  · rw [h1, sub_self0, Finv_zero, mz1]
  · rw [h1, neg_add_one, mz1, mz2]
theorem pl_sm {E : Ed K0} {s : F} (ss : s * s = 1) {p : P2 PP} (hp : E.on p) (h : plS s p = 0) : Sm p := by
  have s0 : s ≠ 0 := fun h0 => by rw [h0, mz1] at ss; exact F_one_ne ss.symm
  have hy : p.y = 1 ∨ p.y = 0 - 1 := by
    rcases F_mul_zero h with h1 | h1
    · exact .inr (one_add_zero ((F_mul_zero h1).resolve_left s0))
    · refine .inl (one_sub_zero (Classical.byContradiction fun h2 => ?_))
      have := mul_Finv h2
      rw [h1, mz1] at this
      exact F_one_ne this.symm
  exact ⟨E.x_zero hp (pm_sq hy), hy⟩
section
variable {n : Nat} [NeZero n]
theorem z_tw {X Z c : Fin n} (h : X * Z = 0) : (X + Z) * (X + Z) * ((X - Z) * (X - Z)) * (((X + Z) * (X + Z) - (X - Z) * (X - Z)) * ((X + Z) * (X + Z) + c * ((X + Z) * (X + Z) - (X - Z) * (X - Z)))) = 0 := by
  have e : (X + Z) * (X + Z) - (X - Z) * (X - Z) = 4 * (X * Z) := by clear h; grind
  rw [e, h]; clear e h; grind
end
theorem z_twice {q : Pt} (h : toF q.x * toF q.y = 0) : toF q.twice.x * toF q.twice.y = 0 := by
  unfold Pt.twice
  dsimp only
  simp only [toF_mul, toF_add, toF_sub]
  exact z_tw h
theorem z_joined {p q : Pt} {u : Nat} (h : toF u = 0) : toF (p.joined q u).x * toF (p.joined q u).y = 0 := by
  unfold Pt.joined
  dsimp only
  rw [toF_mul u, h, mz2, mz1]
theorem LS_z {k u : Nat} (h : toF u = 0) : ∀ d, toF (LS k u d).1.x * toF (LS k u d).1.y = 0 ∧ toF (LS k u d).2.x * toF (LS k u d).2.y = 0
  | 0 => by
    refine ⟨?_, ?_⟩
    · show toF 1 * toF 0 = 0
      rw [toF_zero, mz1]
    · show toF u * toF 1 = 0
      rw [h, mz2]
  | d + 1 => by
    obtain ⟨h1, h2⟩ := LS_z h (k := k) d
    show toF (lstep u _ (LS k u d)).1.x * toF (lstep u _ (LS k u d)).1.y = 0 ∧ toF (lstep u _ (LS k u d)).2.x * toF (lstep u _ (LS k u d)).2.y = 0
    unfold lstep
    split
    · exact ⟨z_joined h, z_twice h2⟩
    · exact ⟨z_twice h1, z_joined h⟩
theorem lad_f (k u : Nat) : toF (lad k u) = toF (LS k u 256).1.x * Finv (toF (LS k u 256).1.y) := by
  unfold lad; rw [toF_mul, toF_inv]
theorem lad_z {k u : Nat} (h : toF u = 0) : toF (lad k u) = 0 := by
  have h1 := (LS_z h (k := k) 256).1
  rw [lad_f]
  rcases F_mul_zero h1 with h2 | h2
  · rw [h2, mz2]
  · rw [h2, Finv_zero, mz1]
theorem lad_of {E : Ed K0} {s : F} (M : Mo E s cL) {k u : Nat} (hk : k < T256) {P : P2 PP} (hP : E.on P) (hu : toF u = plS s P) : toF (lad k u) = plS s (E.smul k P) := by
  by_cases h0 : toF u = 0
  · rw [lad_z h0, sm_pl (sm_smul hP (pl_sm M.ss hP (hu ▸ h0)) k)]
  · have hk1 : Kp s (toF u) 1 P := by rw [hu]; exact kp_of M.ss (hu ▸ h0)
    have h1 := (LS_kq M hk hP hk1 h0 256 (Nat.le_refl _)).1
    rw [Nat.sub_self, Nat.pow_zero, Nat.div_one] at h1
    rw [lad_f]
    exact kp_val M.ss h1
end Go.Proofs.Ytjiiccainfhgkaa
namespace Go.Proofs.Ytjiiccainfhgkaa
set_option linter.unusedVariables false
section
variable {n : Nat} [NeZero n] {K : Fl n}
theorem ex_on {a d x y v i : Fin n} (hv : x * x = v) (hd : v = (1 - y * y) * i) (hi : (a - d * (y * y)) * i = 1) : a * x * x + y * y = 1 + d * x * x * y * y := by
  have e : (a - d * (y * y)) * (x * x) = 1 - y * y := by
    rw [hv, hd]
    have : (a - d * (y * y)) * ((1 - y * y) * i) = (1 - y * y) * ((a - d * (y * y)) * i) := by clear hv hd hi; grind
    rw [this, hi]; clear hv hd hi this; grind
  clear hv hd hi
  grind
theorem ex_val {y U i j : Fin n} (hy : y = (U - 1) * i) (hi : (U + 1) * i = 1) (hj : (1 - y) * j = 1) : U = 1 * (1 + y) * j := by
  have e : U * (1 - y) = 1 + y := by
    have : y * (U + 1) = U - 1 := by
      rw [hy]
      have : (U - 1) * i * (U + 1) = (U - 1) * ((U + 1) * i) := by clear hy hi hj; grind
      rw [this, hi]; clear hy hi hj this; grind
    clear hy hi hj
    grind
  have : U = U * ((1 - y) * j) := by rw [hj]; clear hy hi hj e; grind
  rw [this]
  have : U * ((1 - y) * j) = U * (1 - y) * j := by clear hy hi hj e this; grind
  rw [this, e]; clear hy hi hj e this; grind
theorem y_ne1 (K : Fl n) {y U i : Fin n} (hy : y = (U - 1) * i) (hi : (U + 1) * i = 1) : 1 - y ≠ 0 := fun h => by
  have h1 : y = 1 := one_sub_zero h
  rw [h1] at hy
  have : U + 1 = U - 1 := by
    have e : (U + 1) * 1 = (U + 1) * ((U - 1) * i) := by rw [← hy]
    have e2 : (U + 1) * ((U - 1) * i) = (U - 1) * ((U + 1) * i) := by clear hy hi h h1 e; grind
    rw [e2, hi] at e; clear hy hi h h1 e2; grind
  exact K.two_ne (by clear hy hi h h1; grind)
theorem ex_on2 {d x y z v i r h : Fin n} (hz : y * z = 1) (hr : r * r = 2 * v) (hh : 2 * h = 1) (hx : x = r * h) (hd : v = (1 - y * y) * i) (hi : ((0 - 1) - d * (y * y)) * i = 1) : (2 * d) * x * x + z * z = 1 + (0 - 2) * x * x * z * z := by
  have e0 : 2 * (x * x) = v := by
    rw [hx]
    have : 2 * (r * h * (r * h)) = r * r * h * (2 * h) := by clear hz hr hh hx hd hi; grind
    rw [this, hh, hr]
    have : 2 * v * h * 1 = v * (2 * h) := by clear hz hr hh hx hd hi this; grind
    rw [this, hh]; clear hz hr hh hx hd hi this; grind
  have e : ((0 - 1) - d * (y * y)) * v = 1 - y * y := by
    rw [hd]
    have : ((0 - 1) - d * (y * y)) * ((1 - y * y) * i) = (1 - y * y) * (((0 - 1) - d * (y * y)) * i) := by clear hz hr hh hx hd hi e0; grind
    rw [this, hi]; clear hz hr hh hx hd hi this e0; grind
  have e2 : (z * z) * (((0 - 1) - d * (y * y)) * v) = (z * z) * (1 - y * y) := by rw [e]
  have z1 : (z * z) * (((0 - 1) - d * (y * y)) * v) = 0 - z * z * v - d * ((y * z) * (y * z)) * v := by clear hz hr hh hx hd hi e e2 e0; grind
  have z2 : (z * z) * (1 - y * y) = z * z - (y * z) * (y * z) := by clear hz hr hh hx hd hi e e2 z1 e0; grind
  rw [z1, z2, hz] at e2
  clear hz hr hh hx hd hi e z1 z2
  rw [← e0] at e2
  clear e0
  grind
theorem ex_val2 {y z U j k : Fin n} (hz : y * z = 1) (hU : U = 1 * (1 + y) * j) (hj : (1 - y) * j = 1) (hk : (1 - z) * k = 1) : U = (0 - 1) * (1 + z) * k := by
  have e1 : (1 - y) * k = 0 - y := by
    have : y * ((1 - z) * k) = (y - y * z) * k := by clear hz hU hj hk; grind
    rw [hk, hz] at this
    clear hz hU hj hk; grind
  have e2 : (1 - y) * ((0 - 1) * (1 + z) * k) = 1 + y := by
    have : (1 - y) * ((0 - 1) * (1 + z) * k) = (0 - 1) * (1 + z) * ((1 - y) * k) := by clear hz hU hj hk e1; grind
    rw [this, e1]
    have : (0 - 1) * (1 + z) * (0 - y) = y + y * z := by clear hz hU hj hk e1 this; grind
    rw [this, hz]; clear hz hU hj hk e1 this; grind
  have e3 : (0 - 1) * (1 + z) * k = ((1 - y) * j) * ((0 - 1) * (1 + z) * k) := by rw [hj]; clear hz hU hj hk e1 e2; grind
  rw [e3, hU]
  have e4 : (1 - y) * j * ((0 - 1) * (1 + z) * k) = j * ((1 - y) * ((0 - 1) * (1 + z) * k)) := by clear hz hU hj hk e1 e2 e3; grind
  rw [e4, e2]; clear hz hU hj hk e1 e2 e3 e4; grind
theorem add_one_zero {y : Fin n} (h : y + 1 = 0) : y = 0 - 1 := by grind
theorem base_id {y i : Fin n} : (1 - y) * (1 * (1 + y) * i) = (1 + y) * ((1 - y) * i) := by grind
theorem z_ne1 (K : Fl n) {y z : Fin n} (hz : y * z = 1) (hy : 1 - y ≠ 0) : 1 - z ≠ 0 := fun h => hy (by
  have : z = 1 := one_sub_zero h
  rw [this] at hz; clear h hy this; grind)
end
/-- Of a number, or of twice it, there is a root. -/
theorem sq_or (v : F) : (∃ r : F, r * r = v) ∨ (∃ r : F, r * r = 2 * v) := by
  by_cases h : isSq v.val = true
  · refine .inl ⟨toF (froot v.val), ?_⟩
    rw [← toF_mul, root_sq h, toF_flow, toF_of]
  · have h0 : flow v.val ≠ 0 := fun h0 => h (by rw [← isSq_flow, h0]; exact isSq_zero)
    obtain ⟨i, hi⟩ := is_pow2 h0
    rw [← isSq_flow, hi, isSq_pow2] at h
    have hi2 : (i + 1) % 2 = 0 := by
      have : ¬ i % 2 = 0 := fun h1 => h (decide_eq_true h1)
      omega
    have e : fmul 2 v.val = fpow 2 (i + 1) := by
      rw [Nat.add_comm, fpow_add, ← hi, fmul_flow_right, fpow_def]
      rw [fmul_def, fmul_def, Nat.pow_one, Nat.mod_mul_mod]
    have hs : isSq (fmul 2 v.val) = true := by rw [e, isSq_pow2]; exact decide_eq_true hi2
    refine .inr ⟨toF (froot (fmul 2 v.val)), ?_⟩
    rw [← toF_mul, root_sq hs, toF_flow, toF_mul, toF_of]
    rfl
theorem half_one : (2 : F) * Finv 2 = 1 := mul_Finv F_two_ne
/-- Every number is that of a point, of the curve or of its twist. -/
theorem lies (U : F) : ∃ (E : Ed K0) (s : F), Mo E s cL ∧ ∃ P, E.on P ∧ U = plS s P := by
  by_cases hU : U + 1 = 0
  · refine ⟨ET, 0 - 1, mo1, ⟨toF iroot2D, 0⟩, ?_, ?_⟩
    · show toF (2 * DD) * toF iroot2D * toF iroot2D + 0 * 0 = 1 + toF (PP - 2) * toF iroot2D * toF iroot2D * 0 * 0
      decide +kernel
    · have : U = 0 - 1 := by
        have := add_one_zero hU
        exact this
      rw [this]
      show _ = (0 - 1) * (1 + 0) * Finv (1 - 0)
      have e : Finv ((1 : F) - 0) = 1 := Finv_uniq (by decide +kernel)
      rw [e]
      decide +kernel
  · have hi := mul_Finv hU
    obtain ⟨y, hy⟩ : ∃ y : F, y = (U - 1) * Finv (U + 1) := ⟨_, rfl⟩
    have hne := y_ne1 K0 hy hi
    have hj := mul_Finv hne
    have hval := ex_val hy hi hj
    have hD : ((0 - 1 : F) - toF DD * (y * y)) ≠ 0 := E0.ady_ne y
    have hDi := mul_Finv hD
    obtain ⟨v, hv⟩ : ∃ v : F, v = (1 - y * y) * Finv ((0 - 1 : F) - toF DD * (y * y)) := ⟨_, rfl⟩
    rcases sq_or v with ⟨r, hr⟩ | ⟨r, hr⟩
    · exact ⟨E0, 1, mo0, ⟨r, y⟩, ex_on hr hv hDi, hval⟩
    · by_cases hy0 : y = 0
      · -- then v = -1, a square
        refine ⟨E0, 1, mo0, ⟨toF rootM, y⟩, ?_, hval⟩
        rw [hy0]
        show (0 - 1) * toF rootM * toF rootM + 0 * 0 = 1 + toF DD * toF rootM * toF rootM * 0 * 0
        decide +kernel
      · have hz := mul_Finv hy0
        have hk := mul_Finv (z_ne1 K0 hz hne)
        refine ⟨ET, 0 - 1, mo1, ⟨r * Finv 2, Finv y⟩, ?_, ex_val2 hz hval hj hk⟩
        have h := ex_on2 hz hr half_one rfl hv hDi
        have e1 : (2 : F) * toF DD = toF (2 * DD) := by decide +kernel
        have e2 : (0 - 2 : F) = toF (PP - 2) := by decide +kernel
        rw [e1, e2] at h
        exact h
/-! ### Laws of the ladder -/
theorem lad_P (k u : Nat) : lad k u < PP := fmul_P _ _
theorem place_P (p : Pt) : place p < PP := fmul_P _ _
theorem place_f (p : Pt) : toF (place p) = plS 1 p.f := by
  unfold place plS
  rw [toF_mul, toF_inv, toF_add, toF_sub, toF_one]
  show (1 + toF p.y) * Finv (1 - toF p.y) = 1 * (1 + toF p.y) * Finv (1 - toF p.y)
  rw [Fin.one_mul]
theorem lad_low (k u : Nat) (hk : k < T256) : lad k (flow u) = lad k u := by
  obtain ⟨E, s, M, P, hP, hu⟩ := lies (toF u)
  apply toF_inj (lad_P _ _) (lad_P _ _)
  rw [lad_of M hk hP hu, lad_of M hk hP (by rw [toF_flow]; exact hu)]
theorem lad_zero (k : Nat) : lad k 0 = 0 := toF_inj (lad_P _ _) (by decide) (lad_z toF_zero)
theorem lad_PP (k : Nat) : lad k PP = 0 := toF_inj (lad_P _ _) (by decide) (lad_z (by decide +kernel))
theorem lad_no (u : Nat) : lad 0 u = 0 := by
  obtain ⟨E, s, M, P, hP, hu⟩ := lies (toF u)
  apply toF_inj (lad_P _ _) (by decide)
  rw [lad_of M (by decide) hP hu]
  exact sm_pl (p := P2.zero) ⟨rfl, .inl rfl⟩
theorem lad_once (u : Nat) : lad 1 u = flow u := by
  obtain ⟨E, s, M, P, hP, hu⟩ := lies (toF u)
  apply toF_inj (lad_P _ _) (flow_P _)
  rw [lad_of M (by decide) hP hu, E.smul_one hP, toF_flow, hu]
theorem lad_lad {j k : Nat} (hj : j < T256) (hk : k < T256) (u : Nat) : lad j (lad k u) = lad k (lad j u) := by
  obtain ⟨E, s, M, P, hP, hu⟩ := lies (toF u)
  apply toF_inj (lad_P _ _) (lad_P _ _)
  rw [lad_of M hj (E.smul_on hP k) (lad_of M hk hP hu), lad_of M hk (E.smul_on hP j) (lad_of M hj hP hu), E.smul_smul hP, E.smul_smul hP, Nat.mul_comm]
theorem lad_mul {j k : Nat} (hj : j < T256) (hk : k < T256) (hjk : j * k < T256) (u : Nat) : lad (j * k) u = lad j (lad k u) := by
  obtain ⟨E, s, M, P, hP, hu⟩ := lies (toF u)
  apply toF_inj (lad_P _ _) (lad_P _ _)
  rw [lad_of M hj (E.smul_on hP k) (lad_of M hk hP hu), lad_of M hjk hP hu, E.smul_smul hP]
theorem lad_place {k : Nat} (hk : k < T256) {p : Pt} (hp : p.on) : lad k (place p) = place (p.times k) := by
  apply toF_inj (lad_P _ _) (place_P _)
  rw [lad_of mo0 hk hp.f (place_f p), place_f, times_f hp]
theorem place_neg (p : Pt) : place p.neg = place p := rfl
theorem place_base : place Pt.base = 9 := by
  apply toF_inj (place_P _) (by decide)
  rw [place_f]
  have hne : (1 : F) - Pt.base.f.y ≠ 0 := by decide +kernel
  refine F_cancel hne ?_
  have e : (1 - Pt.base.f.y) * plS 1 Pt.base.f = (1 + Pt.base.f.y) * ((1 - Pt.base.f.y) * Finv (1 - Pt.base.f.y)) := by
    unfold plS
    generalize Finv (1 - Pt.base.f.y) = i
    generalize Pt.base.f.y = y
    exact base_id
  rw [e, mul_Finv hne]
  decide +kernel
end Go.Proofs.Ytjiiccainfhgkaa
namespace Go.Proofs.Ytjiiccainfhgkaa
set_option linter.unusedVariables false
theorem den_id {n : Nat} [NeZero n] {d y m i : Fin n} (hm : m * m = 0 - 1) (h : d * (y * y) + 1 = 0) (hi : y * i = 1) : m * i * (m * i) = d := by grind
/-- What is divided by is never 0. -/
theorem den_ne (y : F) : toF DD * (y * y) + 1 ≠ 0 := by
  intro h
  have hy : y ≠ 0 := fun h0 => by
    rw [h0] at h
    have : (0 : F) = 1 := by rw [← h]; exact (by decide +kernel : (toF DD * ((0 : F) * 0) + 1) = 1)
    exact F_one_ne this.symm
  exact DD_nonsq _ (den_id rootM_sq h (mul_Finv hy))
theorem eqn_id {n : Nat} [NeZero n] {d x y i : Fin n} (hi : (d * (y * y) + 1) * i = 1) : (x * x = (y * y - 1) * i) ↔ (y * y - x * x = 1 + d * (x * x * (y * y))) := by
  constructor
  · intro h
    grind
  · intro h
    grind
def sqV (y : Nat) : Nat := fmul (fsub (fmul y y) 1) (finv (fadd (fmul DD (fmul y y)) 1))
theorem upV_is (k : Nat) : upV k = sqV (upY k) := rfl
theorem sqV_P (y : Nat) : sqV y < PP := fmul_P _ _
theorem on_sq {p : Pt} (hr : p.red) : p.on ↔ fmul p.x p.x = sqV p.y := by
  have hi := mul_Finv (den_ne (toF p.y))
  have k1 : E0.on p.f ↔ toF p.x * toF p.x = (toF p.y * toF p.y - 1) * Finv (toF DD * (toF p.y * toF p.y) + 1) := by
    rw [eqn_id hi, on_iff_id]
    exact Iff.rfl
  have k2 : toF (sqV p.y) = (toF p.y * toF p.y - 1) * Finv (toF DD * (toF p.y * toF p.y) + 1) := by
    unfold sqV
    rw [toF_mul, toF_sub, toF_mul, toF_inv, toF_add, toF_mul, toF_mul, toF_one]
  rw [on_iff, k1, ← k2, ← toF_mul]
  exact ⟨fun h => toF_inj (fmul_P _ _) (sqV_P _) h.2, fun h => ⟨hr, by rw [h]⟩⟩
theorem PP_255 : PP < 2 ^ 255 := by decide +kernel
theorem up_pack {p : Pt} (hr : p.red) : upY p.pack = p.y ∧ upO p.pack = p.x % 2 := by
  have h1 : p.y < 2 ^ 255 := Nat.lt_trans hr.2 PP_255
  unfold upY upO Pt.pack
  rw [Nat.add_mul_mod_self_left, Nat.mod_eq_of_lt h1, Nat.add_mul_div_left _ _ (by decide), Nat.div_eq_of_lt h1, Nat.zero_add]
  exact ⟨rfl, rfl⟩
theorem neg_odd {x : Nat} (hx : x < PP) (h0 : x ≠ 0) : fsub 0 x % 2 = 1 - x % 2 := by
  have := PP_odd
  rw [fneg_parity hx h0]
  omega
/-- What was packed is unpacked as it was. -/
theorem unpack_pack {p : Pt} (h : p.on) : upOk p.pack ∧ upPt p.pack = p := by
  have hr := h.red
  obtain ⟨hy, ho⟩ := up_pack hr
  have hv : upV p.pack = fmul p.x p.x := by rw [upV_is, hy]; exact ((on_sq hr).1 h).symm
  have hs : isSq (upV p.pack) = true := by rw [hv]; exact sq_sq p.x
  have he := root_even (upV p.pack)
  have h2 := root_two p.x
  rw [← hv, flow_of hr.1] at h2
  have hz : fsub 0 0 = 0 := by rw [fsub_def]; decide +kernel
  unfold upOk upPt
  rw [hy, ho]
  refine ⟨⟨hs, (flow_of hr.2).symm, fun ⟨a, b⟩ => ?_⟩, ?_⟩
  · rcases h2 with h3 | h3
    · rw [h3] at b; omega
    · by_cases hx0 : p.x = 0
      · omega
      · have := fneg_parity hr.1 hx0
        have := hr.1
        omega
  · obtain ⟨x, y⟩ := p
    dsimp only at *
    congr 1
    by_cases hx0 : x = 0
    · subst hx0
      rw [if_neg (by decide)]
      rcases h2 with h3 | h3
      · exact h3
      · rw [h3, hz]
    · have hn : fsub 0 x % 2 = 1 - x % 2 := neg_odd hr.1 hx0
      rcases h2 with h3 | h3
      · rw [h3] at he ⊢
        rw [if_neg (by omega)]
      · rw [h3] at he ⊢
        rw [if_pos (by omega), fneg_neg, flow_of hr.1]
/-- What is unpacked is a point, and packed to just that. -/
theorem pack_unpack {k : Nat} (ho : upO k = 0 ∨ upO k = 1) (h : upOk k) : (upPt k).on ∧ (upPt k).pack = k := by
  obtain ⟨h1, h2, h3⟩ := h
  have hsq := root_sq h1
  have he := root_even (upV k)
  have hP := froot_P (upV k)
  have hred : (upPt k).red := ⟨by unfold upPt; dsimp only; split; exact fsub_P _ _; exact hP, by show upY k < PP; rw [h2]; exact flow_P _⟩
  have hx : fmul (upPt k).x (upPt k).x = sqV (upPt k).y := by
    show fmul (if upO k = 1 then fsub 0 (froot (upV k)) else froot (upV k)) (if upO k = 1 then fsub 0 (froot (upV k)) else froot (upV k)) = sqV (upY k)
    rw [← upV_is]
    have e : flow (upV k) = upV k := by rw [upV_is]; exact flow_of (sqV_P _)
    split
    · rw [neg_sq, hsq, e]
    · rw [hsq, e]
  refine ⟨(on_sq hred).2 hx, ?_⟩
  unfold Pt.pack
  have hpar : (upPt k).x % 2 = upO k := by
    unfold upPt
    dsimp only
    rcases ho with h0 | h0
    · rw [h0, if_neg (by decide), he]
    · have hne : froot (upV k) ≠ 0 := fun hz => h3 ⟨h0, hz⟩
      rw [h0, if_pos rfl, neg_odd hP hne, he]
  rw [hpar]
  exact Nat.mod_add_div k (2 ^ 255)
end Go.Proofs.Ytjiiccainfhgkaa
namespace Go.Proofs.Ytjiiccainfhgkaa
set_option linter.unusedVariables false
theorem toF_nadd (a b : Nat) : toF (a + b) = toF a + toF b := by
  apply Fin.ext
  rw [Fin.val_add, toF_val, toF_val, toF_val]
  simp only [flow_def]
  rw [← Nat.add_mod]
theorem toF_nmul (a b : Nat) : toF (a * b) = toF a * toF b := by
  apply Fin.ext
  rw [Fin.val_mul, toF_val, toF_val, toF_val]
  simp only [flow_def]
  rw [← Nat.mul_mod]
theorem toF_mod {a b : Nat} (h : a % PP = b % PP) : toF a = toF b := by
  rw [toF_eq, flow_def, flow_def, h]
/-- That (x, y) is the sum of (u, v) and (s, t). -/
def sumB (u v s t x y : Nat) : Bool :=
  (x + x * (DD * u * s * v * t)) % PP == (u * t + v * s) % PP && y % PP == (v * t + u * s + y * (DD * u * s * v * t)) % PP
theorem sum_x_id {n : Nat} [NeZero n] {x t c : Fin n} (h : x + x * t = c) : x * (1 + t) = c := by grind
theorem sum_y_id {n : Nat} [NeZero n] {y t a b : Fin n} (h : y = a + b + y * t) : y * (1 - t) = a - (0 - 1) * b := by grind
theorem assoc_id {n : Nat} [NeZero n] (u s : Fin n) : (0 - 1) * (u * s) = (0 - 1) * u * s := by grind
theorem sumB_ok {u v s t x y : Nat} (h : sumB u v s t x y = true) (h1 : E0.on (⟨u, v⟩ : Pt).f) (h2 : E0.on (⟨s, t⟩ : Pt).f) : E0.add (⟨u, v⟩ : Pt).f (⟨s, t⟩ : Pt).f = (⟨x, y⟩ : Pt).f := by
  unfold sumB at h
  rw [Bool.and_eq_true, beq_iff_eq, beq_iff_eq] at h
  obtain ⟨hx, hy⟩ := h
  have hx := toF_mod hx
  have hy := toF_mod hy
  simp only [toF_nadd, toF_nmul] at hx hy
  refine E0.add_of h1 h2 ?_ ?_
  · show toF x * (1 + toF DD * toF u * toF s * toF v * toF t) = toF u * toF t + toF v * toF s
    exact sum_x_id hx
  · show toF y * (1 - toF DD * toF u * toF s * toF v * toF t) = toF v * toF t - (0 - 1) * toF u * toF s
    rw [← assoc_id]
    exact sum_y_id hy
/-- Steps: doubled, or the point itself added. -/
def stepsB (bx bY : Nat) : List (Bool × Nat × Nat) → Nat → Nat → Nat → Nat → Nat → Nat → Bool
  | [], m, x, y, m', x', y' => m == m' && x == x' && y == y'
  | (true, u, v) :: l, m, x, y, m', x', y' => sumB x y bx bY u v && stepsB bx bY l (m + 1) u v m' x' y'
  | (false, u, v) :: l, m, x, y, m', x', y' => sumB x y x y u v && stepsB bx bY l (2 * m) u v m' x' y'
theorem stepsB_ok {b : Pt} (hb : E0.on b.f) : ∀ (l : List (Bool × Nat × Nat)) (m x y m' x' y' : Nat), E0.smul m b.f = (⟨x, y⟩ : Pt).f → stepsB b.x b.y l m x y m' x' y' = true → E0.smul m' b.f = (⟨x', y'⟩ : Pt).f
  | [], m, x, y, m', x', y', h, k => by
    unfold stepsB at k
    rw [Bool.and_eq_true, Bool.and_eq_true, beq_iff_eq, beq_iff_eq, beq_iff_eq] at k
    obtain ⟨⟨rfl, rfl⟩, rfl⟩ := k
    exact h
  | (true, u, v) :: l, m, x, y, m', x', y', h, k => by
    unfold stepsB at k
    rw [Bool.and_eq_true] at k
    refine stepsB_ok hb l (m + 1) u v m' x' y' ?_ k.2
    have ho := E0.smul_on hb m
    rw [h] at ho
    rw [Ed.smul, h]
    exact sumB_ok k.1 ho hb
  | (false, u, v) :: l, m, x, y, m', x', y', h, k => by
    unfold stepsB at k
    rw [Bool.and_eq_true] at k
    refine stepsB_ok hb l (2 * m) u v m' x' y' ?_ k.2
    have ho := E0.smul_on hb m
    rw [h] at ho
    rw [E0.smul_double hb, h]
    exact sumB_ok k.1 ho ho
theorem steps_ok {b : Pt} (hb : E0.on b.f) (l : List (Bool × Nat × Nat)) {m m' : Nat} {p q : Pt} (h : E0.smul m b.f = p.f) (k : stepsB b.x b.y l m p.x p.y m' q.x q.y = true) : E0.smul m' b.f = q.f :=
  stepsB_ok hb l m p.x p.y m' q.x q.y h k
end Go.Proofs.Ytjiiccainfhgkaa
