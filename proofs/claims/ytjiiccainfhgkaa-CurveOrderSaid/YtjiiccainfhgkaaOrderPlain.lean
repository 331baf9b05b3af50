/- Steps by affine points: what is checked of each. Plain laws. -/
import Derived.Test.YtjiiccainfhgkaaCurveLaw
import Derived.Test.YtjiiccainfhgkaaOrder
namespace Go.Proofs.Ytjiiccainfhgkaa
set_option linter.unusedVariables false
theorem toF_nadd (a b : Nat) : toF (a + b) = toF a + toF b := by
  apply Fin.ext
  rw [Fin.val_add, toF_val, toF_val, toF_val]
  simp only [flow_def]
  rw [← Nat.add_mod]
theorem toF_nmul (a b : Nat) : toF (a * b) = toF a * toF b := by
  apply Fin.ext
  rw [Fin.val_mul, toF_val, toF_val, toF_val]
  simp only [flow_def]
  rw [← Nat.mul_mod]
theorem toF_mod {a b : Nat} (h : a % PP = b % PP) : toF a = toF b := by
  rw [toF_eq, flow_def, flow_def, h]
/-- That (x, y) is the sum of (u, v) and (s, t). -/
def sumB (u v s t x y : Nat) : Bool :=
  (x + x * (DD * u * s * v * t)) % PP == (u * t + v * s) % PP && y % PP == (v * t + u * s + y * (DD * u * s * v * t)) % PP
theorem sum_x_id {n : Nat} [NeZero n] {x t c : Fin n} (h : x + x * t = c) : x * (1 + t) = c := by grind
theorem sum_y_id {n : Nat} [NeZero n] {y t a b : Fin n} (h : y = a + b + y * t) : y * (1 - t) = a - (0 - 1) * b := by grind
theorem assoc_id {n : Nat} [NeZero n] (u s : Fin n) : (0 - 1) * (u * s) = (0 - 1) * u * s := by grind
theorem sumB_ok {u v s t x y : Nat} (h : sumB u v s t x y = true) (h1 : E0.on (⟨u, v⟩ : Pt).f) (h2 : E0.on (⟨s, t⟩ : Pt).f) : E0.add (⟨u, v⟩ : Pt).f (⟨s, t⟩ : Pt).f = (⟨x, y⟩ : Pt).f := by
  unfold sumB at h
  rw [Bool.and_eq_true, beq_iff_eq, beq_iff_eq] at h
  obtain ⟨hx, hy⟩ := h
  have hx := toF_mod hx
  have hy := toF_mod hy
  simp only [toF_nadd, toF_nmul] at hx hy
  refine E0.add_of h1 h2 ?_ ?_
  · show toF x * (1 + toF DD * toF u * toF s * toF v * toF t) = toF u * toF t + toF v * toF s
    exact sum_x_id hx
  · show toF y * (1 - toF DD * toF u * toF s * toF v * toF t) = toF v * toF t - (0 - 1) * toF u * toF s
    rw [← assoc_id]
    exact sum_y_id hy
/-- Steps: doubled, or the point itself added. -/
def stepsB (bx bY : Nat) : List (Bool × Nat × Nat) → Nat → Nat → Nat → Nat → Nat → Nat → Bool
  | [], m, x, y, m', x', y' => m == m' && x == x' && y == y'
  | (true, u, v) :: l, m, x, y, m', x', y' => sumB x y bx bY u v && stepsB bx bY l (m + 1) u v m' x' y'
  | (false, u, v) :: l, m, x, y, m', x', y' => sumB x y x y u v && stepsB bx bY l (2 * m) u v m' x' y'
theorem stepsB_ok {b : Pt} (hb : E0.on b.f) : ∀ (l : List (Bool × Nat × Nat)) (m x y m' x' y' : Nat), E0.smul m b.f = (⟨x, y⟩ : Pt).f → stepsB b.x b.y l m x y m' x' y' = true → E0.smul m' b.f = (⟨x', y'⟩ : Pt).f
  | [], m, x, y, m', x', y', h, k => by
    unfold stepsB at k
    rw [Bool.and_eq_true, Bool.and_eq_true, beq_iff_eq, beq_iff_eq, beq_iff_eq] at k
    obtain ⟨⟨rfl, rfl⟩, rfl⟩ := k
    exact h
  | (true, u, v) :: l, m, x, y, m', x', y', h, k => by
    unfold stepsB at k
    rw [Bool.and_eq_true] at k
    refine stepsB_ok hb l (m + 1) u v m' x' y' ?_ k.2
    have ho := E0.smul_on hb m
    rw [h] at ho
    rw [Ed.smul, h]
    exact sumB_ok k.1 ho hb
  | (false, u, v) :: l, m, x, y, m', x', y', h, k => by
    unfold stepsB at k
    rw [Bool.and_eq_true] at k
    refine stepsB_ok hb l (2 * m) u v m' x' y' ?_ k.2
    have ho := E0.smul_on hb m
    rw [h] at ho
    rw [E0.smul_double hb, h]
    exact sumB_ok k.1 ho ho
theorem steps_ok {b : Pt} (hb : E0.on b.f) (l : List (Bool × Nat × Nat)) {m m' : Nat} {p q : Pt} (h : E0.smul m b.f = p.f) (k : stepsB b.x b.y l m p.x p.y m' q.x q.y = true) : E0.smul m' b.f = q.f :=
  stepsB_ok hb l m p.x p.y m' q.x q.y h k
end Go.Proofs.Ytjiiccainfhgkaa
