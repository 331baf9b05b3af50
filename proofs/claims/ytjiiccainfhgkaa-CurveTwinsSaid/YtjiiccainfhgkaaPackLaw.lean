/- Packs of points: plain laws. -/
import Derived.Test.YtjiiccainfhgkaaFroot2
import Derived.Test.YtjiiccainfhgkaaCurveLaw
import Derived.Test.YtjiiccainfhgkaaPackPlain
namespace Go.Proofs.Ytjiiccainfhgkaa
set_option linter.unusedVariables false
theorem den_id {n : Nat} [NeZero n] {d y m i : Fin n} (hm : m * m = 0 - 1) (h : d * (y * y) + 1 = 0) (hi : y * i = 1) : m * i * (m * i) = d := by grind
/-- What is divided by is never 0. -/
theorem den_ne (y : F) : toF DD * (y * y) + 1 ≠ 0 := by
  intro h
  have hy : y ≠ 0 := fun h0 => by
    rw [h0] at h
    have : (0 : F) = 1 := by rw [← h]; exact (by decide +kernel : (toF DD * ((0 : F) * 0) + 1) = 1)
    exact F_one_ne this.symm
  exact DD_nonsq _ (den_id rootM_sq h (mul_Finv hy))
theorem eqn_id {n : Nat} [NeZero n] {d x y i : Fin n} (hi : (d * (y * y) + 1) * i = 1) : (x * x = (y * y - 1) * i) ↔ (y * y - x * x = 1 + d * (x * x * (y * y))) := by
  constructor
  · intro h
    grind
  · intro h
    grind
def sqV (y : Nat) : Nat := fmul (fsub (fmul y y) 1) (finv (fadd (fmul DD (fmul y y)) 1))
theorem upV_is (k : Nat) : upV k = sqV (upY k) := rfl
theorem sqV_P (y : Nat) : sqV y < PP := fmul_P _ _
theorem on_sq {p : Pt} (hr : p.red) : p.on ↔ fmul p.x p.x = sqV p.y := by
  have hi := mul_Finv (den_ne (toF p.y))
  have k1 : E0.on p.f ↔ toF p.x * toF p.x = (toF p.y * toF p.y - 1) * Finv (toF DD * (toF p.y * toF p.y) + 1) := by
    rw [eqn_id hi, on_iff_id]
    exact Iff.rfl
  have k2 : toF (sqV p.y) = (toF p.y * toF p.y - 1) * Finv (toF DD * (toF p.y * toF p.y) + 1) := by
    unfold sqV
    rw [toF_mul, toF_sub, toF_mul, toF_inv, toF_add, toF_mul, toF_mul, toF_one]
  rw [on_iff, k1, ← k2, ← toF_mul]
  exact ⟨fun h => toF_inj (fmul_P _ _) (sqV_P _) h.2, fun h => ⟨hr, by rw [h]⟩⟩
theorem PP_255 : PP < 2 ^ 255 := by decide +kernel
theorem up_pack {p : Pt} (hr : p.red) : upY p.pack = p.y ∧ upO p.pack = p.x % 2 := by
  have h1 : p.y < 2 ^ 255 := Nat.lt_trans hr.2 PP_255
  unfold upY upO Pt.pack
  rw [Nat.add_mul_mod_self_left, Nat.mod_eq_of_lt h1, Nat.add_mul_div_left _ _ (by decide), Nat.div_eq_of_lt h1, Nat.zero_add]
  exact ⟨rfl, rfl⟩
theorem neg_odd {x : Nat} (hx : x < PP) (h0 : x ≠ 0) : fsub 0 x % 2 = 1 - x % 2 := by
  have := PP_odd
  rw [fneg_parity hx h0]
  omega
/-- What was packed is unpacked as it was. -/
theorem unpack_pack {p : Pt} (h : p.on) : upOk p.pack ∧ upPt p.pack = p := by
  have hr := h.red
  obtain ⟨hy, ho⟩ := up_pack hr
  have hv : upV p.pack = fmul p.x p.x := by rw [upV_is, hy]; exact ((on_sq hr).1 h).symm
  have hs : isSq (upV p.pack) = true := by rw [hv]; exact sq_sq p.x
  have he := root_even (upV p.pack)
  have h2 := root_two p.x
  rw [← hv, flow_of hr.1] at h2
  have hz : fsub 0 0 = 0 := by rw [fsub_def]; decide +kernel
  unfold upOk upPt
  rw [hy, ho]
  refine ⟨⟨hs, (flow_of hr.2).symm, fun ⟨a, b⟩ => ?_⟩, ?_⟩
  · rcases h2 with h3 | h3
    · rw [h3] at b; omega
    · by_cases hx0 : p.x = 0
      · omega
      · have := fneg_parity hr.1 hx0
        have := hr.1
        omega
  · obtain ⟨x, y⟩ := p
    dsimp only at *
    congr 1
    by_cases hx0 : x = 0
    · subst hx0
      rw [if_neg (by decide)]
      rcases h2 with h3 | h3
      · exact h3
      · rw [h3, hz]
    · have hn : fsub 0 x % 2 = 1 - x % 2 := neg_odd hr.1 hx0
      rcases h2 with h3 | h3
      · rw [h3] at he ⊢
        rw [if_neg (by omega)]
      · rw [h3] at he ⊢
        rw [if_pos (by omega), fneg_neg, flow_of hr.1]
/-- What is unpacked is a point, and packed to just that. -/
theorem pack_unpack {k : Nat} (ho : upO k = 0 ∨ upO k = 1) (h : upOk k) : (upPt k).on ∧ (upPt k).pack = k := by
  obtain ⟨h1, h2, h3⟩ := h
  have hsq := root_sq h1
  have he := root_even (upV k)
  have hP := froot_P (upV k)
  have hred : (upPt k).red := ⟨by unfold upPt; dsimp only; split; exact fsub_P _ _; exact hP, by show upY k < PP; rw [h2]; exact flow_P _⟩
  have hx : fmul (upPt k).x (upPt k).x = sqV (upPt k).y := by
    show fmul (if upO k = 1 then fsub 0 (froot (upV k)) else froot (upV k)) (if upO k = 1 then fsub 0 (froot (upV k)) else froot (upV k)) = sqV (upY k)
    rw [← upV_is]
    have e : flow (upV k) = upV k := by rw [upV_is]; exact flow_of (sqV_P _)
    split
    · rw [neg_sq, hsq, e]
    · rw [hsq, e]
  refine ⟨(on_sq hred).2 hx, ?_⟩
  unfold Pt.pack
  have hpar : (upPt k).x % 2 = upO k := by
    unfold upPt
    dsimp only
    rcases ho with h0 | h0
    · rw [h0, if_neg (by decide), he]
    · have hne : froot (upV k) ≠ 0 := fun hz => h3 ⟨h0, hz⟩
      rw [h0, if_pos rfl, neg_odd hP hne, he]
  rw [hpar]
  exact Nat.mod_add_div k (2 ^ 255)
end Go.Proofs.Ytjiiccainfhgkaa
