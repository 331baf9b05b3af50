/- SCHNORR: what was signed is verified, and nothing else of the same front. Plain laws. -/
import Derived.Test.YtkbgkobbadjpnaaDoorSignD
namespace Go.Proofs.YtkbgkobbadjpnaaDoor
set_option linter.unusedVariables false
theorem times_smulB (m n : Nat) : Pt.base.times (smul m n) = (Pt.base.times n).times m := by
  rw [pt_times_times base_on, base_low (m * n), slow_def, smul_def]
theorem times_saddB (m n : Nat) : Pt.base.times (sadd m n) = (Pt.base.times m).add (Pt.base.times n) := by
  rw [← pt_times_add base_on, base_low (m + n), slow_def, sadd_def]
theorem pt_cancel {p q : Pt} (hp : p.on) (hq : q.on) (h : p.add q = p) : q = Pt.zero := by
  have h1 : p.neg.add (p.add q) = p.neg.add p := by rw [h]
  rw [← pt_assoc (neg_on hp) hp hq, pt_comm (neg_on hp) hp, pt_neg hp, pt_comm zero_on hq, pt_zero hq] at h1
  exact h1
theorem base_le {m n : Nat} (hmn : m ≤ n) (hn : n < SLn) (h : Pt.base.times n = Pt.base.times m) : m = n := by
  obtain ⟨k, rfl⟩ := Nat.exists_eq_add_of_le hmn
  rw [pt_times_add base_on] at h
  have := pt_cancel (times_on base_on m) (times_on base_on k) h
  rw [base_iff, slow_def, Nat.mod_eq_of_lt (by omega)] at this
  omega
theorem base_inj {m n : Nat} (hm : m < SLn) (hn : n < SLn) (h : Pt.base.times m = Pt.base.times n) : m = n := by
  rcases Nat.le_total m n with hmn | hmn
  · exact base_le hmn hn h.symm
  · exact (base_le hmn hm h).symm
open Classical in
/-- What verifies. -/
noncomputable def verI (k f s : Nat) (p : List Nat) : Int := if clOk k f s then (if Pt.base.times s = tP k f p then 0 else 5) else 4
theorem verI_zero {k f s : Nat} {p : List Nat} : verI k f s p = 0 ↔ clOk k f s ∧ Pt.base.times s = tP k f p := by
  unfold verI
  by_cases h : clOk k f s
  · by_cases h2 : Pt.base.times s = tP k f p
    · simp [h, h2]
    · simp [h, h2]
  · simp [h]
theorem verI_five {k f s : Nat} {p : List Nat} (h : clOk k f s) (h2 : Pt.base.times s ≠ tP k f p) : verI k f s p = 5 := by
  unfold verI; rw [if_pos h, if_neg h2]
theorem verI_four {k f s : Nat} {p : List Nat} (h : ¬ clOk k f s) : verI k f s p = 4 := by
  unfold verI; rw [if_neg h]
/-- Of one front there is one. -/
theorem sign_only {k f a b : Nat} {p : List Nat} (h1 : verI k f a p = 0) (h2 : verI k f b p = 0) : a = b := by
  rw [verI_zero] at h1 h2
  exact base_inj h1.1.2.2 h2.1.2.2 (h1.2.trans h2.2.symm)
theorem up_base (n : Nat) : upOk (basP n) ∧ upPt (basP n) = Pt.base.times n := unpack_pack (times_on base_on n)
theorem sig_cl (seed : Nat) (p : List Nat) {s : Nat} (hs : s < SLn) : clOk (pubS seed) (basP (rS seed p)) s := ⟨(up_base _).1, (up_base _).1, hs⟩
theorem sig_tP (seed : Nat) (p : List Nat) : tP (pubS seed) (basP (rS seed p)) p = Pt.base.times (sS seed p) := by
  unfold tP pubS
  rw [(up_base _).2, (up_base _).2]
  unfold sS
  rw [times_saddB, times_smulB]
  rfl
theorem sig_true (seed : Nat) (p : List Nat) : verI (pubS seed) (basP (rS seed p)) (sS seed p) p = 0 := by
  rw [verI_zero]
  exact ⟨sig_cl seed p (sS_L _ _), (sig_tP seed p).symm⟩
theorem sig_other (seed : Nat) (p : List Nat) {s : Nat} (hs : s < SLn) (hne : s ≠ sS seed p) : verI (pubS seed) (basP (rS seed p)) s p = 5 := by
  refine verI_five (sig_cl seed p hs) fun h => hne ?_
  rw [sig_tP] at h
  exact base_inj hs (sS_L _ _) h
theorem sig_great (seed : Nat) (p : List Nat) {s : Nat} (hs : SLn ≤ s) : verI (pubS seed) (basP (rS seed p)) s p = 4 := verI_four fun h => by have := h.2.2; omega
/-! ### No front is nought -/
theorem four_id {n : Nat} [NeZero n] {a x i j : Fin n} (h : a * x * x + 0 * 0 = 1 + 0) (hi : (1 - 0) * i = 1) : (0 * 0 - a * x * x) * i = 0 - 1 := by grind
theorem one_inv {n : Nat} [NeZero n] {i : Fin n} (hi : 1 * i = 1) : i = 1 := by grind
theorem half_y {n : Nat} [NeZero n] {a d x i : Fin n} (h : a * x * x + 0 * 0 = 1 + d * x * x * 0 * 0) (hi : (1 - d * x * x * 0 * 0) * i = 1) : (0 * 0 - a * x * x) * i = 0 - 1 := by grind
theorem half_x {n : Nat} [NeZero n] (x i : Fin n) : (x * 0 + 0 * x) * i = 0 := by grind
theorem full_y {n : Nat} [NeZero n] {a d i : Fin n} (hi : (1 - d * 0 * 0 * (0 - 1) * (0 - 1)) * i = 1) : ((0 - 1) * (0 - 1) - a * 0 * 0) * i = 1 := by grind
theorem full_x {n : Nat} [NeZero n] (i : Fin n) : (0 * (0 - 1) + (0 - 1) * 0) * i = (0 : Fin n) := by grind
theorem dl_one {n : Nat} [NeZero n] (d x y : Fin n) (h : y = 0) : 1 - d * x * x * y * y = 1 := by rw [h]; grind
theorem dl_one' {n : Nat} [NeZero n] (d y : Fin n) : 1 - d * 0 * 0 * y * y = 1 := by grind
theorem twice_half {x : F} (h : E0.on ⟨x, 0⟩) : E0.add ⟨x, 0⟩ ⟨x, 0⟩ = ⟨0, 0 - 1⟩ := by
  have h1 : K0.inv 1 = 1 := one_inv (K0.mul_inv 1 K0.one_ne)
  unfold Ed.add
  refine P2.ext' (half_x x _) (half_y (d := E0.d) h ?_)
  have e : E0.dl ⟨x, 0⟩ ⟨x, 0⟩ = E0.d * x * x * 0 * 0 := rfl
  rw [e, dl_one _ _ _ rfl, h1]
  exact one_sq
theorem twice_neg : E0.add ⟨0, 0 - 1⟩ ⟨0, 0 - 1⟩ = P2.zero := by
  have h1 : K0.inv 1 = 1 := one_inv (K0.mul_inv 1 K0.one_ne)
  unfold Ed.add
  refine P2.ext' (full_x _) (full_y (d := E0.d) ?_)
  have e : E0.dl ⟨0, 0 - 1⟩ ⟨0, 0 - 1⟩ = E0.d * 0 * 0 * (0 - 1) * (0 - 1) := rfl
  rw [e, dl_one', h1]
  exact one_sq
theorem base_y {r : Nat} (h0 : r ≠ 0) (hr : r < SLn) : (Pt.base.times r).y ≠ 0 := fun hy => by
  have on := times_on base_on r
  have hf : (Pt.base.times r).f = ⟨toF (Pt.base.times r).x, 0⟩ := by
    unfold Pt.f; rw [hy]; rfl
  have h2 : (Pt.base.times (r + r)).f = ⟨0, 0 - 1⟩ := by
    rw [pt_times_add base_on, add_f_pt on on, hf]
    exact twice_half (by have := on.f; rw [hf] at this; exact this)
  have on2 := times_on base_on (r + r)
  have h4 : Pt.base.times (r + r + (r + r)) = Pt.zero := by
    refine Pt.eq_of (times_red _ _) zero_red ?_
    rw [pt_times_add base_on, add_f_pt on2 on2, h2, zero_f]
    exact twice_neg
  rw [base_iff, slow_def] at h4
  have hd : SLn ∣ r * 4 := by
    have := Nat.dvd_of_mod_eq_zero h4
    have e : r + r + (r + r) = r * 4 := by omega
    rwa [e] at this
  rcases prime_SL.dvd_mul hd with h | h
  · have := Nat.le_of_dvd (Nat.pos_of_ne_zero h0) h
    omega
  · have := Nat.le_of_dvd (by decide) h
    exact absurd this (by decide +kernel)
theorem front_ne {r : Nat} (h0 : r ≠ 0) (hr : r < SLn) : basP r ≠ 0 := fun h => base_y h0 hr (by
  unfold basP Pt.pack at h
  omega)
theorem sigL_ne (seed : Nat) (p : List Nat) : (sigL seed p == List.replicate 64 0) = false := by
  rw [beq_eq_false_iff_ne]
  intro h
  have h1 := congrArg (List.take 32) h
  unfold sigL at h1
  rw [List.take_left' (lb_len _), List.take_replicate] at h1
  have h2 : lb 0 = List.replicate 32 0 := by decide +kernel
  rw [show min 32 64 = 32 from rfl, ← h2] at h1
  exact front_ne (atl_ne _) (rS_L seed p) (lb_inj (basP_lt _) (by decide) h1)
end Go.Proofs.YtkbgkobbadjpnaaDoor
