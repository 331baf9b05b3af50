/- Numbers modulo 2^255 - 19: what Low makes. Sums, differences, products modulo 2^255 - 19 on numbers: plain laws. Powers modulo 2^255 - 19 by squaring; the root that field.Sqrt looks for: plain laws. Points of the curve as pairs of numbers; what the program makes of them: definitions, no program in sight. What field.Mul makes of a product's words: plain law. -/
import Derived.Test.YtkbgkobbadjpnaaDoorLimbAll
namespace Go.Proofs.YtkbgkobbadjpnaaDoor
def PP : Nat := 57896044618658097711785492504343953926634992332820282019728792003956564819949
theorem PP_T : T256 = 2 * PP + 38 := by decide +kernel
theorem PP_pos : 38 < PP := by decide +kernel
def sinkP (a : Nat) : Nat → Nat
  | 0 => a
  | i + 1 => if PP ≤ sinkP a i then sinkP a i - PP else sinkP a i
theorem sinkP_lt {a : Nat} (ha : a < T256) : ∀ i, sinkP a i < T256
  | 0 => ha
  | i + 1 => by have := sinkP_lt ha i; unfold sinkP; split <;> omega
theorem sinkP_two {a : Nat} (ha : a < T256) : sinkP a 2 = a % PP := by
  have h1 := PP_T
  have h2 := PP_pos
  have e : sinkP a 2 = if PP ≤ sinkP a 1 then sinkP a 1 - PP else sinkP a 1 := rfl
  have e1 : sinkP a 1 = if PP ≤ a then a - PP else a := rfl
  generalize PP = p at *
  rw [e, e1]
  by_cases k1 : p ≤ a
  · rw [if_pos k1]
    by_cases k2 : p ≤ a - p
    · rw [if_pos k2, Nat.mod_eq_sub_mod k1, Nat.mod_eq_sub_mod k2, Nat.mod_eq_of_lt (by omega)]
    · rw [if_neg k2, Nat.mod_eq_sub_mod k1, Nat.mod_eq_of_lt (by omega)]
  · rw [if_neg k1, if_neg k1, Nat.mod_eq_of_lt (by omega)]
end Go.Proofs.YtkbgkobbadjpnaaDoor
namespace Go.Proofs.YtkbgkobbadjpnaaDoor
def flow (a : Nat) : Nat := a % PP
def fadd (a b : Nat) : Nat := (a + b) % PP
def fmul (a b : Nat) : Nat := a * b % PP
def fsub (a b : Nat) : Nat := (a % PP + PP - b % PP) % PP
def fpow (a n : Nat) : Nat := a ^ n % PP
theorem PP_lt : PP < T256 := by decide +kernel
theorem flow_P (a : Nat) : flow a < PP := Nat.mod_lt _ (by decide)
theorem fadd_P (a b : Nat) : fadd a b < PP := Nat.mod_lt _ (by decide)
theorem fmul_P (a b : Nat) : fmul a b < PP := Nat.mod_lt _ (by decide)
theorem fsub_P (a b : Nat) : fsub a b < PP := Nat.mod_lt _ (by decide)
theorem fpow_P (a b : Nat) : fpow a b < PP := Nat.mod_lt _ (by decide)
theorem flow_lt (a : Nat) : flow a < T256 := Nat.lt_trans (flow_P a) PP_lt
instance {a : Nat} : SmT (flow a) := ⟨flow_lt _⟩
theorem fadd_lt (a b : Nat) : fadd a b < T256 := Nat.lt_trans (fadd_P a b) PP_lt
instance {a b : Nat} : SmT (fadd a b) := ⟨fadd_lt _ _⟩
theorem fmul_lt (a b : Nat) : fmul a b < T256 := Nat.lt_trans (fmul_P a b) PP_lt
instance {a b : Nat} : SmT (fmul a b) := ⟨fmul_lt _ _⟩
theorem fsub_lt (a b : Nat) : fsub a b < T256 := Nat.lt_trans (fsub_P a b) PP_lt
instance {a b : Nat} : SmT (fsub a b) := ⟨fsub_lt _ _⟩
theorem fpow_lt (a b : Nat) : fpow a b < T256 := Nat.lt_trans (fpow_P a b) PP_lt
instance {a b : Nat} : SmT (fpow a b) := ⟨fpow_lt _ _⟩
theorem flow_of {a : Nat} (h : a < PP) : flow a = a := Nat.mod_eq_of_lt h
theorem fadd_comm (a b : Nat) : fadd a b = fadd b a := by unfold fadd; rw [Nat.add_comm]
theorem fmul_comm (a b : Nat) : fmul a b = fmul b a := by unfold fmul; rw [Nat.mul_comm]
theorem fadd_assoc (a b c : Nat) : fadd (fadd a b) c = fadd a (fadd b c) := by
  unfold fadd; rw [Nat.mod_add_mod, Nat.add_mod_mod, Nat.add_assoc]
theorem fmul_assoc (a b c : Nat) : fmul (fmul a b) c = fmul a (fmul b c) := by
  unfold fmul; rw [Nat.mod_mul_mod, Nat.mul_mod_mod, Nat.mul_assoc]
theorem fmul_add (a b c : Nat) : fmul a (fadd b c) = fadd (fmul a b) (fmul a c) := by
  unfold fmul fadd; rw [Nat.mul_mod_mod, Nat.mod_add_mod, Nat.add_mod_mod, Nat.mul_add]
theorem fmul_one (a : Nat) : fmul a 1 = flow a := by unfold fmul flow; rw [Nat.mul_one]
theorem fsub_add (a b : Nat) : fadd (fsub a b) b = flow a := by
  unfold fadd fsub flow
  have h := Nat.mod_lt b (show 0 < PP by decide)
  have e := Nat.mod_add_div b PP
  rw [Nat.mod_add_mod]
  generalize PP = p at *
  generalize b / p = q at *
  generalize b % p = r at *
  rw [show a % p + p - r + b = a % p + p + p * q by omega, show a % p + p + p * q = a % p + p * (1 + q) by rw [Nat.mul_add, Nat.mul_one, Nat.add_assoc], Nat.add_mul_mod_self_left, Nat.mod_mod]
theorem fsub_self (a : Nat) : fsub a a = 0 := by
  unfold fsub
  have h := Nat.mod_lt a (show 0 < PP by decide)
  generalize PP = p at *
  generalize a % p = r at *
  rw [show r + p - r = p by omega, Nat.mod_self]
theorem flow_def (a : Nat) : flow a = a % PP := rfl
theorem fadd_def (a b : Nat) : fadd a b = (a + b) % PP := rfl
theorem fmul_def (a b : Nat) : fmul a b = a * b % PP := rfl
theorem fsub_def (a b : Nat) : fsub a b = (a % PP + PP - b % PP) % PP := rfl
theorem fpow_def (a n : Nat) : fpow a n = a ^ n % PP := rfl
attribute [irreducible] flow fadd fmul fsub fpow
end Go.Proofs.YtkbgkobbadjpnaaDoor
namespace Go.Proofs.YtkbgkobbadjpnaaDoor
theorem fpow_zero (a : Nat) : fpow a 0 = 1 := by simp only [fpow_def]; rw [Nat.pow_zero]; decide +kernel
theorem fpow_add (a m n : Nat) : fpow a (m + n) = fmul (fpow a m) (fpow a n) := by
  simp only [fpow_def, fmul_def]; rw [Nat.mod_mul_mod, Nat.mul_mod_mod, Nat.pow_add]
theorem fpow_one (a : Nat) : fpow a 1 = flow a := by simp only [fpow_def, flow_def]; rw [Nat.pow_one]
theorem fmul_flow_right (a b : Nat) : fmul a (flow b) = fmul a b := by simp only [fmul_def, flow_def]; rw [Nat.mul_mod_mod]
theorem fmul_flow_left (a b : Nat) : fmul (flow a) b = fmul a b := by simp only [fmul_def, flow_def]; rw [Nat.mod_mul_mod]
theorem fpow_flow (a n : Nat) : fpow (flow a) n = fpow a n := by simp only [fpow_def, flow_def]; rw [← Nat.pow_mod]
theorem fpow_even (a m : Nat) : fpow a (2 * m) = fmul (fpow a m) (fpow a m) := by rw [Nat.two_mul, fpow_add]
theorem fpow_odd (a m : Nat) : fpow a (2 * m + 1) = fmul (fmul (fpow a m) (fpow a m)) a := by
  rw [fpow_add, fpow_even, fpow_one, fmul_flow_right]
theorem fpow_top (a n : Nat) : fpow a (n / 2 ^ blen n) = 1 := by
  rw [Nat.div_eq_of_lt (blen_le.1 (Nat.le_refl _)), fpow_zero]
theorem fpow_bit (a n j : Nat) : fpow a (n / 2 ^ j) = if n / 2 ^ j % 2 = 1 then fmul (fmul (fpow a (n / 2 ^ (j + 1))) (fpow a (n / 2 ^ (j + 1)))) a else fmul (fpow a (n / 2 ^ (j + 1))) (fpow a (n / 2 ^ (j + 1))) := by
  have e : n / 2 ^ (j + 1) = n / 2 ^ j / 2 := by rw [Nat.pow_succ, Nat.div_div_eq_div_mul]
  rw [e]
  generalize n / 2 ^ j = m
  split
  · rename_i h
    rw [← fpow_odd, show 2 * (m / 2) + 1 = m by omega]
  · rename_i h
    rw [← fpow_even, show 2 * (m / 2) = m by omega]
def E1 : Nat := 7237005577332262213973186563042994240829374041602535252466099000494570602494
def E2 : Nat := 14474011154664524427946373126085988481658748083205070504932198000989141204987
theorem E1_is : E1 = 2 ^ 252 - 2 := by decide +kernel
theorem E2_is : E2 = 2 ^ 253 - 5 := by decide +kernel
def finv (a : Nat) : Nat := fpow a (PP - 2)
def rootA (a : Nat) : Nat := fpow a E1
def rootB (a : Nat) : Nat := if fmul (rootA a) (rootA a) = flow a then rootA a else fmul (rootA a) (fpow 2 E2)
def isSq (a : Nat) : Bool := decide (fmul (rootB a) (rootB a) = flow a)
def rootC (a : Nat) : Nat := if rootB a % 2 = 1 then fsub 0 (rootB a) else rootB a
def froot (a : Nat) : Nat := if isSq a = true then rootC a else 0
theorem rootB_lt (a : Nat) : rootB a < T256 := by unfold rootB rootA; split; exact fpow_lt _ _; exact fmul_lt _ _
theorem rootB_P (a : Nat) : rootB a < PP := by unfold rootB rootA; split; exact fpow_P _ _; exact fmul_P _ _
theorem rootC_P (a : Nat) : rootC a < PP := by unfold rootC; split; exact fsub_P _ _; exact rootB_P _
theorem froot_P (a : Nat) : froot a < PP := by unfold froot; split; exact rootC_P _; decide
theorem finv_lt (a : Nat) : finv a < T256 := fpow_lt _ _
instance {a : Nat} : SmT (finv a) := ⟨finv_lt _⟩
theorem froot_lt (a : Nat) : froot a < T256 := Nat.lt_trans (froot_P a) PP_lt
instance {a : Nat} : SmT (froot a) := ⟨froot_lt _⟩
end Go.Proofs.YtkbgkobbadjpnaaDoor
namespace Go.Proofs.YtkbgkobbadjpnaaDoor
def DD : Nat := 37095705934669439343138083508754565189542113879843219016388785533085940283555
def BX : Nat := 15112221349535400772501151409588531511454012693041857206046113283949847762202
def BY : Nat := 46316835694926478169428394003475163141307993866256225615783033603165251855960
structure Qd where
  x : Nat
  y : Nat
  z : Nat
  t : Nat
structure Pt where
  x : Nat
  y : Nat
deriving DecidableEq
def Qd.lt (q : Qd) : Prop := q.x < T256 ∧ q.y < T256 ∧ q.z < T256 ∧ q.t < T256
def Pt.lt (p : Pt) : Prop := p.x < T256 ∧ p.y < T256
def Qd.plus (q r : Qd) : Qd :=
  let a := fmul (fsub q.y q.x) (fsub r.y r.x)
  let b := fmul (fadd q.y q.x) (fadd r.y r.x)
  let c0 := fmul (fmul q.t r.t) DD
  let c := fadd c0 c0
  let z0 := fmul q.z r.z
  let z := fadd z0 z0
  let e := fsub b a
  let f := fsub z c
  let g := fadd z c
  let h := fadd b a
  ⟨fmul e f, fmul g h, fmul f g, fmul e h⟩
def Pt.quad (p : Pt) : Qd := ⟨p.x, p.y, 1, fmul p.x p.y⟩
def Qd.point (q : Qd) : Pt := ⟨fmul q.x (finv q.z), fmul q.y (finv q.z)⟩
def Pt.zero : Pt := ⟨0, 1⟩
def Pt.base : Pt := ⟨BX, BY⟩
def Pt.eqn (p : Pt) : Prop := fsub (fmul p.y p.y) (fmul p.x p.x) = fadd 1 (fmul DD (fmul (fmul p.x p.x) (fmul p.y p.y)))
instance (p : Pt) : Decidable p.eqn := by unfold Pt.eqn; infer_instance
def Pt.on (p : Pt) : Prop := p.x = flow p.x ∧ p.y = flow p.y ∧ p.eqn
instance (p : Pt) : Decidable p.on := by unfold Pt.on; infer_instance
def Pt.neg (p : Pt) : Pt := ⟨fsub 0 p.x, p.y⟩
def Pt.add (p q : Pt) : Pt := (p.quad.plus q.quad).point
/-- As often as the bits from bit k on say. -/
def Qd.rep (q : Qd) (n : Nat) : Nat → Qd
  | 0 => Pt.zero.quad
  | k + 1 => let o := (q.rep n k).plus (q.rep n k); if n / 2 ^ (blen n - (k + 1)) % 2 = 1 then o.plus q else o
def Pt.times (n : Nat) (p : Pt) : Pt := (p.quad.rep n (blen n)).point
theorem Qd.plus_lt (q r : Qd) : (q.plus r).lt := ⟨fmul_lt _ _, fmul_lt _ _, fmul_lt _ _, fmul_lt _ _⟩
theorem Pt.quad_lt {p : Pt} (h : p.lt) : p.quad.lt := ⟨h.1, h.2, by show 1 < T256; decide, fmul_lt _ _⟩
theorem Qd.point_lt (q : Qd) : q.point.lt := ⟨fmul_lt _ _, fmul_lt _ _⟩
theorem Pt.zero_lt : Pt.zero.lt := ⟨by decide, by decide⟩
theorem Pt.base_lt : Pt.base.lt := ⟨by decide, by decide⟩
theorem Pt.add_lt (p q : Pt) : (p.add q).lt := Qd.point_lt _
theorem Pt.times_lt (n : Nat) (p : Pt) : (p.times n).lt := Qd.point_lt _
theorem Pt.neg_lt {p : Pt} (h : p.lt) : p.neg.lt := ⟨fsub_lt _ _, h.2⟩
theorem Qd.rep_lt {q : Qd} (n k : Nat) : (q.rep n k).lt := by
  cases k with
  | zero => exact Pt.quad_lt Pt.zero_lt
  | succ k => unfold Qd.rep; dsimp only; split <;> exact Qd.plus_lt _ _
theorem DD_lt : DD < T256 := by decide
end Go.Proofs.YtkbgkobbadjpnaaDoor
namespace Go.Proofs.YtkbgkobbadjpnaaDoor
/-- What has been summed up behind i words. -/
def fmS (W i : Nat) : Nat := W % 2 ^ (64 * i) + 38 * (W / T256 % 2 ^ (64 * i))
def fmO (W i : Nat) : Nat := fmS W i % 2 ^ (64 * i)
def fmC (W i : Nat) : Nat := fmS W i / 2 ^ (64 * i)
theorem fm_zero (W : Nat) : fmO W 0 = 0 ∧ fmC W 0 = 0 := by
  have : fmS W 0 = 0 := by unfold fmS; rw [Nat.mul_zero, Nat.pow_zero, Nat.mod_one, Nat.mod_one]
  unfold fmO fmC; rw [this]; simp
theorem lw_hi (W i : Nat) : lw (W / T256) i = lw W (i + 4) := by
  unfold lw
  rw [T256_eq, Nat.div_div_eq_div_mul, ← Nat.pow_add, show 256 + 64 * i = 64 * (i + 4) by omega]
theorem mod_step (W i : Nat) : W % 2 ^ (64 * (i + 1)) = W % 2 ^ (64 * i) + 2 ^ (64 * i) * lw W i := by
  unfold lw
  rw [show 64 * (i + 1) = 64 * i + 64 by omega, Nat.pow_add, Nat.mod_mul]
theorem fmS_succ (W i : Nat) : fmS W (i + 1) = fmS W i + 2 ^ (64 * i) * (lw W i + 38 * lw W (i + 4)) := by
  unfold fmS
  rw [mod_step, mod_step, lw_hi]
  simp only [Nat.mul_add, Nat.mul_left_comm 38]
  omega
theorem fmC_lt (W i : Nat) : fmC W i < 39 := by
  unfold fmC fmS
  have h0 : 0 < 2 ^ (64 * i) := Nat.pow_pos (by omega)
  have h1 := Nat.mod_lt W h0
  have h2 := Nat.mod_lt (W / T256) h0
  rw [Nat.div_lt_iff_lt_mul h0]
  omega
theorem fm_step {W i A B lo c : Nat} (hA : A = lw W (i + 4)) (hB : B = lw W i) (h : A * 38 + B + fmC W i = lo + 18446744073709551616 * c) (hlo : lo < 18446744073709551616) :
    fmC W (i + 1) = c ∧ fmO W (i + 1) = fmO W i + 2 ^ (64 * i) * lo := by
  have e := fmS_succ W i
  have d := Nat.mod_add_div (fmS W i) (2 ^ (64 * i))
  have h0 : 0 < 2 ^ (64 * i) := Nat.pow_pos (by omega)
  have hm := Nat.mod_lt (fmS W i) h0
  rw [← hA, ← hB] at e
  have e2 : fmS W (i + 1) = fmO W i + 2 ^ (64 * i) * (lo + 18446744073709551616 * c) := by
    rw [e, ← h]
    unfold fmO fmC
    rw [← hA.symm.symm] at *
    conv => lhs; rw [← d]
    rw [Nat.add_assoc, ← Nat.mul_add]
    congr 2
    omega
  have e3 : (2 : Nat) ^ (64 * (i + 1)) = 2 ^ (64 * i) * 18446744073709551616 := by rw [show 64 * (i + 1) = 64 * i + 64 by omega, Nat.pow_add]
  have e4 : fmS W (i + 1) = (fmO W i + 2 ^ (64 * i) * lo) + 2 ^ (64 * (i + 1)) * c := by
    rw [e2, e3, Nat.mul_add, Nat.add_assoc, Nat.mul_assoc]
  have hlt : fmO W i + 2 ^ (64 * i) * lo < 2 ^ (64 * (i + 1)) := by
    rw [e3]
    have hm' : fmO W i < 2 ^ (64 * i) := hm
    have : 2 ^ (64 * i) * lo + 2 ^ (64 * i) ≤ 2 ^ (64 * i) * 18446744073709551616 := by
      rw [← Nat.mul_succ]; exact Nat.mul_le_mul_left _ hlo
    omega
  constructor
  · unfold fmC; rw [e4, Nat.add_mul_div_left _ _ (Nat.pow_pos (by omega)), Nat.div_eq_of_lt hlt, Nat.zero_add]
  · unfold fmO; rw [e4, Nat.add_mul_mod_self_left, Nat.mod_eq_of_lt hlt]; rfl
theorem fmO_lt (W i : Nat) : fmO W i < 2 ^ (64 * i) := Nat.mod_lt _ (Nat.pow_pos (by omega))
/-- A word is put on top. -/
theorem limb_top (x i lo : Nat) (hx : x < 2 ^ (64 * i)) (hlo : lo < 18446744073709551616) :
    ((lo : Nat) : Int) = limb (x + 2 ^ (64 * i) * lo) i ∧ ∀ k, k ≠ i → limb x k = limb (x + 2 ^ (64 * i) * lo) k := by
  have h0 : 0 < 2 ^ (64 * i) := Nat.pow_pos (by omega)
  refine ⟨?_, fun k hk => ?_⟩
  · unfold limb
    rw [Nat.add_mul_div_left _ _ h0, Nat.div_eq_of_lt hx, Nat.zero_add, Nat.mod_eq_of_lt hlo]
  · unfold limb
    congr 1
    rcases Nat.lt_or_gt_of_ne hk with h | h
    · obtain ⟨d, rfl⟩ : ∃ d, i = k + 1 + d := ⟨i - (k + 1), by omega⟩
      have e : (2 : Nat) ^ (64 * (k + 1 + d)) * lo = 2 ^ (64 * k) * (18446744073709551616 * (2 ^ (64 * d) * lo)) := by
        rw [show 64 * (k + 1 + d) = 64 * k + (64 + 64 * d) by omega, Nat.pow_add, Nat.pow_add, Nat.mul_assoc, Nat.mul_assoc]
      rw [e, Nat.add_mul_div_left _ _ (Nat.pow_pos (by omega)), Nat.add_mul_mod_self_left]
    · obtain ⟨d, rfl⟩ : ∃ d, k = i + 1 + d := ⟨k - (i + 1), by omega⟩
      have e : (2 : Nat) ^ (64 * i) * 18446744073709551616 ≤ 2 ^ (64 * (i + 1 + d)) := by
        rw [show 64 * (i + 1 + d) = 64 * i + (64 + 64 * d) by omega, Nat.pow_add, Nat.pow_add]
        exact Nat.mul_le_mul_left _ (Nat.le_mul_of_pos_right _ (Nat.pow_pos (by omega)))
      have h1 : 2 ^ (64 * i) * lo + 2 ^ (64 * i) ≤ 2 ^ (64 * i) * 18446744073709551616 := by
        rw [← Nat.mul_succ]; exact Nat.mul_le_mul_left _ hlo
      have h2 : 2 ^ (64 * i) ≤ 2 ^ (64 * i) * 18446744073709551616 := Nat.le_mul_of_pos_right _ (by omega)
      rw [Nat.div_eq_of_lt (by omega), Nat.div_eq_of_lt (by omega)]
/-- The last steps: 38 times what is carried is put on, and 38 once more if that carries. -/
theorem fm_fold {T p x c S : Nat} (hT : T = 2 * p + 38) (hS : S = x + T * c) : (x + 38 * c) % p = S % p := by
  rw [hS, hT, show x + (2 * p + 38) * c = (x + 38 * c) + p * (2 * c) by rw [Nat.add_mul]; simp only [Nat.mul_assoc, Nat.mul_left_comm p 2]; omega, Nat.add_mul_mod_self_left]
theorem fm_end (W : Nat) (hW : W < T512) : fmS W 4 % PP = W % PP ∧ fmS W 4 = fmO W 4 + T256 * fmC W 4 := by
  have e : fmS W 4 = W % T256 + 38 * (W / T256) := by
    unfold fmS
    have h : W / T256 < T256 := Nat.div_lt_of_lt_mul hW
    rw [show 2 ^ (64 * 4) = T256 from T256_eq.symm, Nat.mod_eq_of_lt h]
  refine ⟨?_, ?_⟩
  · rw [e, fm_fold PP_T (S := W) (Nat.mod_add_div W T256).symm]
  · have h := (Nat.mod_add_div (fmS W 4) T256).symm
    unfold fmO fmC
    rw [show 2 ^ (64 * 4) = T256 from T256_eq.symm]
    exact h
end Go.Proofs.YtkbgkobbadjpnaaDoor
