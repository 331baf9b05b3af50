/- The program's points are the curve's: plain laws. -/
import Derived.Test.YtjiiccainfhgkaaEdw2
import Derived.Test.YtjiiccainfhgkaaFp
import Derived.Test.YtjiiccainfhgkaaCurvePlain
namespace Go.Proofs.Ytjiiccainfhgkaa
set_option linter.unusedVariables false
def K0 : Fl PP := ⟨Finv, fun _ h => mul_Finv h, fun _ _ h => F_mul_zero h, F_one_ne, F_two_ne⟩
/-- A root of -1. -/
def rootM : Nat := 19681161376707505956807079304988542015446066515923890162744021073123829784752
theorem DD_nonsq (w : F) : w * w ≠ toF DD := nonsq (n := DD) (by rw [flow_def]; decide +kernel) (by decide +kernel) w
theorem rootM_sq : toF rootM * toF rootM = 0 - 1 := by decide +kernel
theorem rootM_ne : toF rootM ≠ 0 := by decide +kernel
def E0 : Ed K0 := ⟨0 - 1, toF DD, toF rootM, rootM_sq, rootM_ne, DD_nonsq⟩
def Pt.f (p : Pt) : P2 PP := ⟨toF p.x, toF p.y⟩
def Pt.red (p : Pt) : Prop := p.x < PP ∧ p.y < PP
theorem Pt.red.lt {p : Pt} (h : p.red) : p.lt := ⟨Nat.lt_trans h.1 PP_lt, Nat.lt_trans h.2 PP_lt⟩
theorem Pt.eq_of {p q : Pt} (hp : p.red) (hq : q.red) (h : p.f = q.f) : p = q := by
  obtain ⟨x, y⟩ := p
  obtain ⟨u, v⟩ := q
  have hx := toF_inj hp.1 hq.1 (congrArg P2.x h)
  have hy := toF_inj hp.2 hq.2 (congrArg P2.y h)
  dsimp only at hx hy
  rw [hx, hy]
theorem on_iff_id {n : Nat} [NeZero n] (d x y : Fin n) : (y * y - x * x = 1 + d * (x * x * (y * y))) ↔ ((0 - 1) * x * x + y * y = 1 + d * x * x * y * y) := by
  have e1 : y * y - x * x = (0 - 1) * x * x + y * y := by grind
  have e2 : 1 + d * (x * x * (y * y)) = 1 + d * x * x * y * y := by grind
  rw [e1, e2]
theorem red_iff {a : Nat} : a = flow a ↔ a < PP := ⟨fun h => h ▸ flow_P a, fun h => (flow_of h).symm⟩
theorem on_iff (p : Pt) : p.on ↔ p.red ∧ E0.on p.f := by
  have key : p.eqn ↔ E0.on p.f := by
    unfold Pt.eqn Ed.on
    show _ ↔ (0 - 1) * toF p.x * toF p.x + toF p.y * toF p.y = 1 + toF DD * toF p.x * toF p.x * toF p.y * toF p.y
    rw [← on_iff_id]
    constructor
    · intro h
      have := congrArg toF h
      rw [toF_sub, toF_mul, toF_mul, toF_add, toF_mul, toF_mul, toF_mul, toF_mul, toF_one] at this
      exact this
    · intro h
      apply toF_inj (fsub_P _ _) (fadd_P _ _)
      rw [toF_sub, toF_mul, toF_mul, toF_add, toF_mul, toF_mul, toF_mul, toF_mul, toF_one]
      exact h
  unfold Pt.on
  rw [red_iff, red_iff, key]
  exact ⟨fun ⟨a, b, c⟩ => ⟨⟨a, b⟩, c⟩, fun ⟨⟨a, b⟩, c⟩ => ⟨a, b, c⟩⟩
theorem Pt.on.red {p : Pt} (h : p.on) : p.red := ((on_iff p).1 h).1
theorem Pt.on.f {p : Pt} (h : p.on) : E0.on p.f := ((on_iff p).1 h).2
def Qd.rp (q : Qd) (P : P2 PP) : Prop := Rep (toF q.x) (toF q.y) (toF q.z) (toF q.t) P
theorem one_mul_id {n : Nat} [NeZero n] (x : Fin n) : x = x * 1 := by grind
theorem quad_rp (p : Pt) : p.quad.rp p.f := ⟨F_one_ne, one_mul_id _, one_mul_id _, by
  show toF (fmul p.x p.y) = toF p.x * toF p.y * toF 1
  rw [toF_mul, toF_one]; exact one_mul_id _⟩
theorem plus_rp {q r : Qd} {P Q : P2 PP} (hq : q.rp P) (hr : r.rp Q) (oP : E0.on P) (oQ : E0.on Q) : (q.plus r).rp (E0.add P Q) := by
  have h := Rep.plus E0 rfl hq hr oP oQ rfl rfl rfl rfl
  unfold Qd.rp Qd.plus
  dsimp only
  simp only [toF_mul, toF_add, toF_sub]
  exact h
theorem mul_inv_id {n : Nat} [NeZero n] {x z i : Fin n} (h : z * i = 1) : x * z * i = x := by
  have : x * z * i = x * (z * i) := by grind
  rw [this, h]; grind
theorem point_f {q : Qd} {P : P2 PP} (h : q.rp P) : q.point.f = P := by
  have hi := mul_Finv h.z0
  apply P2.ext'
  · show toF (fmul q.x (finv q.z)) = P.x
    rw [toF_mul, toF_inv, h.x]; exact mul_inv_id hi
  · show toF (fmul q.y (finv q.z)) = P.y
    rw [toF_mul, toF_inv, h.y]; exact mul_inv_id hi
theorem point_red (q : Qd) : q.point.red := ⟨fmul_P _ _, fmul_P _ _⟩
theorem zero_f : Pt.zero.f = P2.zero := rfl
theorem zero_red : Pt.zero.red := ⟨by decide, by decide⟩
theorem zero_on : Pt.zero.on := (on_iff _).2 ⟨zero_red, by rw [zero_f]; exact E0.zero_on⟩
theorem add_f_pt {p q : Pt} (hp : p.on) (hq : q.on) : (p.add q).f = E0.add p.f q.f := point_f (plus_rp (quad_rp p) (quad_rp q) hp.f hq.f)
theorem add_red (p q : Pt) : (p.add q).red := point_red _
theorem add_on {p q : Pt} (hp : p.on) (hq : q.on) : (p.add q).on := (on_iff _).2 ⟨add_red p q, by rw [add_f_pt hp hq]; exact E0.add_on hp.f hq.f⟩
theorem neg_f (p : Pt) : p.neg.f = p.f.neg := by
  apply P2.ext'
  · show toF (fsub 0 p.x) = 0 - toF p.x
    rw [toF_sub, toF_zero]
  · rfl
theorem neg_red {p : Pt} (h : p.red) : p.neg.red := ⟨fsub_P _ _, h.2⟩
theorem neg_on {p : Pt} (h : p.on) : p.neg.on := (on_iff _).2 ⟨neg_red h.red, by rw [neg_f]; exact E0.neg_on h.f⟩
theorem rep_rp {p : Pt} (hp : p.on) (m : Nat) : ∀ j, j ≤ blen m → (p.quad.rep m j).rp (E0.smul (m / 2 ^ (blen m - j)) p.f)
  | 0, _ => by
    rw [Nat.sub_zero, Nat.div_eq_of_lt (blen_le.1 (Nat.le_refl _))]
    show Pt.zero.quad.rp P2.zero
    rw [← zero_f]
    exact quad_rp _
  | j + 1, hj => by
    have ih := rep_rp hp m j (by omega)
    have e : blen m - j = blen m - (j + 1) + 1 := by omega
    rw [e] at ih
    have d : m / 2 ^ (blen m - (j + 1) + 1) = m / 2 ^ (blen m - (j + 1)) / 2 := by rw [Nat.pow_succ, Nat.div_div_eq_div_mul]
    rw [d] at ih
    have on' := E0.smul_on hp.f (m / 2 ^ (blen m - (j + 1)) / 2)
    have h2 := plus_rp ih ih on' on'
    rw [← E0.smul_double hp.f] at h2
    unfold Qd.rep
    dsimp only
    generalize m / 2 ^ (blen m - (j + 1)) = k at *
    split
    · rename_i h1
      have h3 := plus_rp h2 (quad_rp p) (E0.smul_on hp.f _) hp.f
      rw [show E0.add (E0.smul (2 * (k / 2)) p.f) p.f = E0.smul (2 * (k / 2) + 1) p.f from rfl, show 2 * (k / 2) + 1 = k by omega] at h3
      exact h3
    · rename_i h1
      rw [show 2 * (k / 2) = k by omega] at h2
      exact h2
theorem times_f {p : Pt} (hp : p.on) (m : Nat) : (p.times m).f = E0.smul m p.f := by
  have h := rep_rp hp m (blen m) (Nat.le_refl _)
  rw [Nat.sub_self, Nat.pow_zero, Nat.div_one] at h
  exact point_f h
theorem times_red (p : Pt) (m : Nat) : (p.times m).red := point_red _
theorem times_on {p : Pt} (hp : p.on) (m : Nat) : (p.times m).on := (on_iff _).2 ⟨times_red p m, by rw [times_f hp]; exact E0.smul_on hp.f m⟩
/-! ### The group -/
section
variable {p q r : Pt} (hp : p.on) (hq : q.on) (hr : r.on)
include hp hq in
theorem pt_comm : p.add q = q.add p := Pt.eq_of (add_red _ _) (add_red _ _) (by rw [add_f_pt hp hq, add_f_pt hq hp, E0.add_comm])
include hp hq hr in
theorem pt_assoc : (p.add q).add r = p.add (q.add r) := Pt.eq_of (add_red _ _) (add_red _ _) (by
  rw [add_f_pt (add_on hp hq) hr, add_f_pt hp hq, add_f_pt hp (add_on hq hr), add_f_pt hq hr, E0.add_assoc hp.f hq.f hr.f])
include hp in
theorem pt_zero : p.add Pt.zero = p := Pt.eq_of (add_red _ _) hp.red (by rw [add_f_pt hp zero_on, zero_f, E0.add_zero hp.f])
include hp in
theorem pt_neg : p.add p.neg = Pt.zero := Pt.eq_of (add_red _ _) zero_red (by rw [add_f_pt hp (neg_on hp), neg_f, E0.add_neg hp.f, zero_f])
include hp in
theorem pt_times_add (m k : Nat) : p.times (m + k) = (p.times m).add (p.times k) := Pt.eq_of (times_red _ _) (add_red _ _) (by
  rw [times_f hp, add_f_pt (times_on hp m) (times_on hp k), times_f hp, times_f hp, E0.smul_add hp.f])
include hp hq in
theorem pt_times_dist (m : Nat) : (p.add q).times m = (p.times m).add (q.times m) := Pt.eq_of (times_red _ _) (add_red _ _) (by
  rw [times_f (add_on hp hq), add_f_pt (times_on hp m) (times_on hq m), times_f hp, times_f hq, add_f_pt hp hq, E0.smul_dist hp.f hq.f])
include hp in
theorem pt_times_times (m k : Nat) : (p.times k).times m = p.times (m * k) := Pt.eq_of (times_red _ _) (times_red _ _) (by
  rw [times_f (times_on hp k), times_f hp, times_f hp, E0.smul_smul hp.f])
include hp in
theorem pt_times_one : p.times 1 = p := Pt.eq_of (times_red _ _) hp.red (by rw [times_f hp, E0.smul_one hp.f])
include hp in
theorem pt_times_zero : p.times 0 = Pt.zero := Pt.eq_of (times_red _ _) zero_red (by rw [times_f hp]; rfl)
end
/-! ### The base -/
theorem base_red : Pt.base.red := ⟨by decide, by decide⟩
theorem base_on : Pt.base.on := by
  refine ⟨red_iff.2 base_red.1, red_iff.2 base_red.2, ?_⟩
  unfold Pt.eqn
  simp only [fsub_def, fmul_def, fadd_def]
  decide +kernel
end Go.Proofs.Ytjiiccainfhgkaa
