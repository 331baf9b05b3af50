/- The field of 2^255 - 19 elements as a type, for laws of polynomials. -/
import Derived.Test.YtjiiccainfhgkaaFroot
namespace Go.Proofs.Ytjiiccainfhgkaa
set_option linter.unusedVariables false
instance ne_PP : NeZero PP := ⟨by decide⟩
abbrev F : Type := Fin PP
def toF (n : Nat) : F := Fin.ofNat PP n
theorem toF_val (n : Nat) : (toF n).val = flow n := by rw [flow_def]; rfl
theorem toF_of (a : F) : toF a.val = a := by apply Fin.ext; rw [toF_val, flow_of a.isLt]
theorem toF_eq {m n : Nat} : toF m = toF n ↔ flow m = flow n := by
  rw [← toF_val, ← toF_val]; exact ⟨fun h => by rw [h], fun h => Fin.ext h⟩
theorem toF_inj {m n : Nat} (hm : m < PP) (hn : n < PP) (h : toF m = toF n) : m = n := by
  rw [toF_eq, flow_of hm, flow_of hn] at h; exact h
theorem toF_mul (a b : Nat) : toF (fmul a b) = toF a * toF b := by
  apply Fin.ext
  rw [toF_val, fmul_flow, Fin.val_mul, toF_val, toF_val, ← fmul_def, fmul_ff]
theorem toF_add (a b : Nat) : toF (fadd a b) = toF a + toF b := by
  apply Fin.ext
  rw [toF_val, flow_of (fadd_P _ _), Fin.val_add, toF_val, toF_val]
  simp only [fadd_def, flow_def]
  rw [← Nat.add_mod]
theorem toF_flow (a : Nat) : toF (flow a) = toF a := by rw [toF_eq, flow_of (flow_P a)]
theorem toF_zero : toF 0 = 0 := rfl
theorem toF_one : toF 1 = 1 := rfl
theorem toF_sub (a b : Nat) : toF (fsub a b) = toF a - toF b := by
  have h := fsub_add a b
  have h2 := congrArg toF h
  rw [toF_add, toF_flow] at h2
  rw [← h2]
  generalize toF (fsub a b) = x
  generalize toF b = y
  grind
theorem F_mul_zero {a b : F} (h : a * b = 0) : a = 0 ∨ b = 0 := by
  rw [← toF_of a, ← toF_of b, ← toF_mul, ← toF_zero, toF_eq, fmul_flow, flow_of (show 0 < PP by decide), fmul_zero_iff] at h
  rcases h with h | h
  · left; rw [flow_of a.isLt] at h; exact Fin.ext h
  · right; rw [flow_of b.isLt] at h; exact Fin.ext h
theorem F_cancel {a b c : F} (ha : a ≠ 0) (h : a * b = a * c) : b = c := by
  have : a * (b - c) = 0 := by grind
  rcases F_mul_zero this with h1 | h1
  · exact absurd h1 ha
  · grind
def Finv (a : F) : F := toF (finv a.val)
theorem toF_inv (n : Nat) : toF (finv n) = Finv (toF n) := by unfold Finv; rw [toF_val, finv_flow]
theorem mul_Finv {a : F} (h : a ≠ 0) : a * Finv a = 1 := by
  have h1 : flow a.val ≠ 0 := by
    rw [flow_of a.isLt]; intro h2; exact h (Fin.ext h2)
  have h2 := congrArg toF (fmul_finv h1)
  rw [toF_mul, toF_of] at h2
  exact h2
theorem Finv_zero : Finv 0 = 0 := by
  unfold Finv
  rw [finv_zero (by rw [flow_of]; rfl; decide), toF_zero]
theorem Finv_uniq {a b : F} (h : a * b = 1) : Finv a = b := by
  have ha : a ≠ 0 := fun h0 => by
    rw [h0] at h
    have : (0 : F) = 1 := by grind
    exact absurd (congrArg Fin.val this) (by decide)
  exact F_cancel ha ((mul_Finv ha).trans h.symm)
theorem F_one_ne : (1 : F) ≠ 0 := fun h => absurd (congrArg Fin.val h) (by decide)
theorem F_two_ne : (2 : F) ≠ 0 := fun h => absurd (congrArg Fin.val h) (by decide)
/-! ### Whole numbers as such numbers -/
def zF (z : Int) : F := ⟨(z % (PP : Int)).toNat, by
  have h : 0 < (PP : Int) := by decide
  have := Int.emod_nonneg z (Int.ne_of_gt h)
  have := Int.emod_lt_of_pos z h
  omega⟩
theorem zF_val (z : Int) : ((zF z).val : Int) = z % (PP : Int) := by
  have h : 0 < (PP : Int) := by decide
  have := Int.emod_nonneg z (Int.ne_of_gt h)
  show (((z % (PP : Int)).toNat : Nat) : Int) = _
  omega
theorem F_ext_int {a b : F} (h : (a.val : Int) = (b.val : Int)) : a = b := Fin.ext (by omega)
theorem zF_mul (x y : Int) : zF (x * y) = zF x * zF y := by
  apply F_ext_int
  rw [Fin.val_mul, zF_val, Int.natCast_emod, Int.natCast_mul, zF_val, zF_val, ← Int.mul_emod]
theorem zF_add (x y : Int) : zF (x + y) = zF x + zF y := by
  apply F_ext_int
  rw [Fin.val_add, zF_val, Int.natCast_emod, Int.natCast_add, zF_val, zF_val, ← Int.add_emod]
theorem zF_one : (1 : F) = zF 1 := by
  apply F_ext_int
  rw [zF_val]
  decide
theorem zF_zero : (0 : F) = zF 0 := by
  apply F_ext_int
  rw [zF_val]
  decide
theorem zF_sub (x y : Int) : zF (x - y) = zF x - zF y := by
  have h : zF (x - y) + zF y = zF x := by rw [← zF_add]; congr 1; omega
  rw [← h]
  generalize zF (x - y) = u
  generalize zF y = v
  grind
theorem zF_surj (a : F) : ∃ z, zF z = a := ⟨(a.val : Int), by
  apply F_ext_int
  rw [zF_val, Int.emod_eq_of_lt (by omega) (by have := a.isLt; omega)]⟩
/-- A number whose half power is not 1 is no square. -/
theorem nonsq {n : Nat} (h0 : flow n ≠ 0) (h : qpow PP n (2 * E2) ≠ 1) (w : F) : w * w ≠ toF n := by
  intro hw
  rw [← toF_of w, ← toF_mul, toF_eq, fmul_flow] at hw
  apply h
  rw [qpow_is, ← fpow_def, ← fpow_flow, ← hw]
  have hw0 : flow w.val ≠ 0 := fun h1 => h0 (by rw [← hw]; exact (fmul_zero_iff _ _).2 (.inl h1))
  obtain ⟨i, hi⟩ := is_pow2 hw0
  rw [← fmul_ff, hi, ← fpow_add, fpow_fpow, ← fpow_zero 2]
  apply fpow2_eq
  rw [PP_four, show (i + i) * (2 * E2) = 4 * E2 * i by rw [← Nat.two_mul, Nat.mul_mul_mul_comm, show 2 * 2 = 4 by rfl, Nat.mul_comm i E2, Nat.mul_assoc], Nat.mul_mod_right, Nat.zero_mod]
end Go.Proofs.Ytjiiccainfhgkaa
