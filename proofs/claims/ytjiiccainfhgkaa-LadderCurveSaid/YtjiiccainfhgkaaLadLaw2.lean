/- Every number is that of a point; the laws of the ladder. -/
import Derived.Test.YtjiiccainfhgkaaLadLaw
import Derived.Test.YtjiiccainfhgkaaOrder
namespace Go.Proofs.Ytjiiccainfhgkaa
set_option linter.unusedVariables false
section
variable {n : Nat} [NeZero n] {K : Fl n}
theorem ex_on {a d x y v i : Fin n} (hv : x * x = v) (hd : v = (1 - y * y) * i) (hi : (a - d * (y * y)) * i = 1) : a * x * x + y * y = 1 + d * x * x * y * y := by
  have e : (a - d * (y * y)) * (x * x) = 1 - y * y := by
    rw [hv, hd]
    have : (a - d * (y * y)) * ((1 - y * y) * i) = (1 - y * y) * ((a - d * (y * y)) * i) := by clear hv hd hi; grind
    rw [this, hi]; clear hv hd hi this; grind
  clear hv hd hi
  grind
theorem ex_val {y U i j : Fin n} (hy : y = (U - 1) * i) (hi : (U + 1) * i = 1) (hj : (1 - y) * j = 1) : U = 1 * (1 + y) * j := by
  have e : U * (1 - y) = 1 + y := by
    have : y * (U + 1) = U - 1 := by
      rw [hy]
      have : (U - 1) * i * (U + 1) = (U - 1) * ((U + 1) * i) := by clear hy hi hj; grind
      rw [this, hi]; clear hy hi hj this; grind
    clear hy hi hj
    grind
  have : U = U * ((1 - y) * j) := by rw [hj]; clear hy hi hj e; grind
  rw [this]
  have : U * ((1 - y) * j) = U * (1 - y) * j := by clear hy hi hj e this; grind
  rw [this, e]; clear hy hi hj e this; grind
theorem y_ne1 (K : Fl n) {y U i : Fin n} (hy : y = (U - 1) * i) (hi : (U + 1) * i = 1) : 1 - y ≠ 0 := fun h => by
  have h1 : y = 1 := one_sub_zero h
  rw [h1] at hy
  have : U + 1 = U - 1 := by
    have e : (U + 1) * 1 = (U + 1) * ((U - 1) * i) := by rw [← hy]
    have e2 : (U + 1) * ((U - 1) * i) = (U - 1) * ((U + 1) * i) := by clear hy hi h h1 e; grind
    rw [e2, hi] at e; clear hy hi h h1 e2; grind
  exact K.two_ne (by clear hy hi h h1; grind)
theorem ex_on2 {d x y z v i r h : Fin n} (hz : y * z = 1) (hr : r * r = 2 * v) (hh : 2 * h = 1) (hx : x = r * h) (hd : v = (1 - y * y) * i) (hi : ((0 - 1) - d * (y * y)) * i = 1) : (2 * d) * x * x + z * z = 1 + (0 - 2) * x * x * z * z := by
  have e0 : 2 * (x * x) = v := by
    rw [hx]
    have : 2 * (r * h * (r * h)) = r * r * h * (2 * h) := by clear hz hr hh hx hd hi; grind
    rw [this, hh, hr]
    have : 2 * v * h * 1 = v * (2 * h) := by clear hz hr hh hx hd hi this; grind
    rw [this, hh]; clear hz hr hh hx hd hi this; grind
  have e : ((0 - 1) - d * (y * y)) * v = 1 - y * y := by
    rw [hd]
    have : ((0 - 1) - d * (y * y)) * ((1 - y * y) * i) = (1 - y * y) * (((0 - 1) - d * (y * y)) * i) := by clear hz hr hh hx hd hi e0; grind
    rw [this, hi]; clear hz hr hh hx hd hi this e0; grind
  have e2 : (z * z) * (((0 - 1) - d * (y * y)) * v) = (z * z) * (1 - y * y) := by rw [e]
  have z1 : (z * z) * (((0 - 1) - d * (y * y)) * v) = 0 - z * z * v - d * ((y * z) * (y * z)) * v := by clear hz hr hh hx hd hi e e2 e0; grind
  have z2 : (z * z) * (1 - y * y) = z * z - (y * z) * (y * z) := by clear hz hr hh hx hd hi e e2 z1 e0; grind
  rw [z1, z2, hz] at e2
  clear hz hr hh hx hd hi e z1 z2
  rw [← e0] at e2
  clear e0
  grind
theorem ex_val2 {y z U j k : Fin n} (hz : y * z = 1) (hU : U = 1 * (1 + y) * j) (hj : (1 - y) * j = 1) (hk : (1 - z) * k = 1) : U = (0 - 1) * (1 + z) * k := by
  have e1 : (1 - y) * k = 0 - y := by
    have : y * ((1 - z) * k) = (y - y * z) * k := by clear hz hU hj hk; grind
    rw [hk, hz] at this
    clear hz hU hj hk; grind
  have e2 : (1 - y) * ((0 - 1) * (1 + z) * k) = 1 + y := by
    have : (1 - y) * ((0 - 1) * (1 + z) * k) = (0 - 1) * (1 + z) * ((1 - y) * k) := by clear hz hU hj hk e1; grind
    rw [this, e1]
    have : (0 - 1) * (1 + z) * (0 - y) = y + y * z := by clear hz hU hj hk e1 this; grind
    rw [this, hz]; clear hz hU hj hk e1 this; grind
  have e3 : (0 - 1) * (1 + z) * k = ((1 - y) * j) * ((0 - 1) * (1 + z) * k) := by rw [hj]; clear hz hU hj hk e1 e2; grind
  rw [e3, hU]
  have e4 : (1 - y) * j * ((0 - 1) * (1 + z) * k) = j * ((1 - y) * ((0 - 1) * (1 + z) * k)) := by clear hz hU hj hk e1 e2 e3; grind
  rw [e4, e2]; clear hz hU hj hk e1 e2 e3 e4; grind
theorem add_one_zero {y : Fin n} (h : y + 1 = 0) : y = 0 - 1 := by grind
theorem base_id {y i : Fin n} : (1 - y) * (1 * (1 + y) * i) = (1 + y) * ((1 - y) * i) := by grind
theorem z_ne1 (K : Fl n) {y z : Fin n} (hz : y * z = 1) (hy : 1 - y ≠ 0) : 1 - z ≠ 0 := fun h => hy (by
  have : z = 1 := one_sub_zero h
  rw [this] at hz; clear h hy this; grind)
end
/-- Of a number, or of twice it, there is a root. -/
theorem sq_or (v : F) : (∃ r : F, r * r = v) ∨ (∃ r : F, r * r = 2 * v) := by
  by_cases h : isSq v.val = true
  · refine .inl ⟨toF (froot v.val), ?_⟩
    rw [← toF_mul, root_sq h, toF_flow, toF_of]
  · have h0 : flow v.val ≠ 0 := fun h0 => h (by rw [← isSq_flow, h0]; exact isSq_zero)
    obtain ⟨i, hi⟩ := is_pow2 h0
    rw [← isSq_flow, hi, isSq_pow2] at h
    have hi2 : (i + 1) % 2 = 0 := by
      have : ¬ i % 2 = 0 := fun h1 => h (decide_eq_true h1)
      omega
    have e : fmul 2 v.val = fpow 2 (i + 1) := by
      rw [Nat.add_comm, fpow_add, ← hi, fmul_flow_right, fpow_def]
      rw [fmul_def, fmul_def, Nat.pow_one, Nat.mod_mul_mod]
    have hs : isSq (fmul 2 v.val) = true := by rw [e, isSq_pow2]; exact decide_eq_true hi2
    refine .inr ⟨toF (froot (fmul 2 v.val)), ?_⟩
    rw [← toF_mul, root_sq hs, toF_flow, toF_mul, toF_of]
    rfl
theorem half_one : (2 : F) * Finv 2 = 1 := mul_Finv F_two_ne
/-- Every number is that of a point, of the curve or of its twist. -/
theorem lies (U : F) : ∃ (E : Ed K0) (s : F), Mo E s cL ∧ ∃ P, E.on P ∧ U = plS s P := by
  by_cases hU : U + 1 = 0
  · refine ⟨ET, 0 - 1, mo1, ⟨toF iroot2D, 0⟩, ?_, ?_⟩
    · show toF (2 * DD) * toF iroot2D * toF iroot2D + 0 * 0 = 1 + toF (PP - 2) * toF iroot2D * toF iroot2D * 0 * 0
      decide +kernel
    · have : U = 0 - 1 := by
        have := add_one_zero hU
        exact this
      rw [this]
      show _ = (0 - 1) * (1 + 0) * Finv (1 - 0)
      have e : Finv ((1 : F) - 0) = 1 := Finv_uniq (by decide +kernel)
      rw [e]
      decide +kernel
  · have hi := mul_Finv hU
    obtain ⟨y, hy⟩ : ∃ y : F, y = (U - 1) * Finv (U + 1) := ⟨_, rfl⟩
    have hne := y_ne1 K0 hy hi
    have hj := mul_Finv hne
    have hval := ex_val hy hi hj
    have hD : ((0 - 1 : F) - toF DD * (y * y)) ≠ 0 := E0.ady_ne y
    have hDi := mul_Finv hD
    obtain ⟨v, hv⟩ : ∃ v : F, v = (1 - y * y) * Finv ((0 - 1 : F) - toF DD * (y * y)) := ⟨_, rfl⟩
    rcases sq_or v with ⟨r, hr⟩ | ⟨r, hr⟩
    · exact ⟨E0, 1, mo0, ⟨r, y⟩, ex_on hr hv hDi, hval⟩
    · by_cases hy0 : y = 0
      · -- then v = -1, a square
        refine ⟨E0, 1, mo0, ⟨toF rootM, y⟩, ?_, hval⟩
        rw [hy0]
        show (0 - 1) * toF rootM * toF rootM + 0 * 0 = 1 + toF DD * toF rootM * toF rootM * 0 * 0
        decide +kernel
      · have hz := mul_Finv hy0
        have hk := mul_Finv (z_ne1 K0 hz hne)
        refine ⟨ET, 0 - 1, mo1, ⟨r * Finv 2, Finv y⟩, ?_, ex_val2 hz hval hj hk⟩
        have h := ex_on2 hz hr half_one rfl hv hDi
        have e1 : (2 : F) * toF DD = toF (2 * DD) := by decide +kernel
        have e2 : (0 - 2 : F) = toF (PP - 2) := by decide +kernel
        rw [e1, e2] at h
        exact h
/-! ### Laws of the ladder -/
theorem lad_P (k u : Nat) : lad k u < PP := fmul_P _ _
theorem place_P (p : Pt) : place p < PP := fmul_P _ _
theorem place_f (p : Pt) : toF (place p) = plS 1 p.f := by
  unfold place plS
  rw [toF_mul, toF_inv, toF_add, toF_sub, toF_one]
  show (1 + toF p.y) * Finv (1 - toF p.y) = 1 * (1 + toF p.y) * Finv (1 - toF p.y)
  rw [Fin.one_mul]
theorem lad_low (k u : Nat) (hk : k < T256) : lad k (flow u) = lad k u := by
  obtain ⟨E, s, M, P, hP, hu⟩ := lies (toF u)
  apply toF_inj (lad_P _ _) (lad_P _ _)
  rw [lad_of M hk hP hu, lad_of M hk hP (by rw [toF_flow]; exact hu)]
theorem lad_zero (k : Nat) : lad k 0 = 0 := toF_inj (lad_P _ _) (by decide) (lad_z toF_zero)
theorem lad_PP (k : Nat) : lad k PP = 0 := toF_inj (lad_P _ _) (by decide) (lad_z (by decide +kernel))
theorem lad_no (u : Nat) : lad 0 u = 0 := by
  obtain ⟨E, s, M, P, hP, hu⟩ := lies (toF u)
  apply toF_inj (lad_P _ _) (by decide)
  rw [lad_of M (by decide) hP hu]
  exact sm_pl (p := P2.zero) ⟨rfl, .inl rfl⟩
theorem lad_once (u : Nat) : lad 1 u = flow u := by
  obtain ⟨E, s, M, P, hP, hu⟩ := lies (toF u)
  apply toF_inj (lad_P _ _) (flow_P _)
  rw [lad_of M (by decide) hP hu, E.smul_one hP, toF_flow, hu]
theorem lad_lad {j k : Nat} (hj : j < T256) (hk : k < T256) (u : Nat) : lad j (lad k u) = lad k (lad j u) := by
  obtain ⟨E, s, M, P, hP, hu⟩ := lies (toF u)
  apply toF_inj (lad_P _ _) (lad_P _ _)
  rw [lad_of M hj (E.smul_on hP k) (lad_of M hk hP hu), lad_of M hk (E.smul_on hP j) (lad_of M hj hP hu), E.smul_smul hP, E.smul_smul hP, Nat.mul_comm]
theorem lad_mul {j k : Nat} (hj : j < T256) (hk : k < T256) (hjk : j * k < T256) (u : Nat) : lad (j * k) u = lad j (lad k u) := by
  obtain ⟨E, s, M, P, hP, hu⟩ := lies (toF u)
  apply toF_inj (lad_P _ _) (lad_P _ _)
  rw [lad_of M hj (E.smul_on hP k) (lad_of M hk hP hu), lad_of M hjk hP hu, E.smul_smul hP]
theorem lad_place {k : Nat} (hk : k < T256) {p : Pt} (hp : p.on) : lad k (place p) = place (p.times k) := by
  apply toF_inj (lad_P _ _) (place_P _)
  rw [lad_of mo0 hk hp.f (place_f p), place_f, times_f hp]
theorem place_neg (p : Pt) : place p.neg = place p := rfl
theorem place_base : place Pt.base = 9 := by
  apply toF_inj (place_P _) (by decide)
  rw [place_f]
  have hne : (1 : F) - Pt.base.f.y ≠ 0 := by decide +kernel
  refine F_cancel hne ?_
  have e : (1 - Pt.base.f.y) * plS 1 Pt.base.f = (1 + Pt.base.f.y) * ((1 - Pt.base.f.y) * Finv (1 - Pt.base.f.y)) := by
    unfold plS
    generalize Finv (1 - Pt.base.f.y) = i
    generalize Pt.base.f.y = y
    exact base_id
  rw [e, mul_Finv hne]
  decide +kernel
end Go.Proofs.Ytjiiccainfhgkaa
