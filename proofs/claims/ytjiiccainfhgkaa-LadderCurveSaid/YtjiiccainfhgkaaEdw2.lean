/- So often a point: laws. And points by four numbers (x*z, y*z, z, x*y*z). Plain laws. -/
import Derived.Test.YtjiiccainfhgkaaEdw
namespace Go.Proofs.Ytjiiccainfhgkaa
set_option linter.unusedVariables false
set_option linter.unusedSectionVars false
variable {n : Nat} [NeZero n] {K : Fl n}
def Ed.smul (E : Ed K) : Nat → P2 n → P2 n
  | 0, _ => P2.zero
  | k + 1, p => E.add (E.smul k p) p
section
variable (E : Ed K) {p q r : P2 n}
theorem Ed.smul_on (hp : E.on p) : ∀ k, E.on (E.smul k p)
  | 0 => E.zero_on
  | k + 1 => E.add_on (Ed.smul_on hp k) hp
theorem Ed.zero_add (hp : E.on p) : E.add P2.zero p = p := by rw [E.add_comm, E.add_zero hp]
theorem Ed.smul_one (hp : E.on p) : E.smul 1 p = p := E.zero_add hp
theorem Ed.smul_add (hp : E.on p) (j : Nat) : ∀ k, E.smul (j + k) p = E.add (E.smul j p) (E.smul k p)
  | 0 => by rw [Nat.add_zero, Ed.smul, E.add_zero (E.smul_on hp j)]
  | k + 1 => by
    rw [← Nat.add_assoc, Ed.smul, Ed.smul, Ed.smul_add hp j k, E.add_assoc (E.smul_on hp j) (E.smul_on hp k) hp]
theorem Ed.smul_zero_pt : ∀ k, E.smul k P2.zero = P2.zero
  | 0 => rfl
  | k + 1 => by rw [Ed.smul, Ed.smul_zero_pt k, E.add_zero E.zero_on]
theorem Ed.smul_smul (hp : E.on p) (j : Nat) : ∀ k, E.smul k (E.smul j p) = E.smul (k * j) p
  | 0 => by rw [Nat.zero_mul]; rfl
  | k + 1 => by rw [Ed.smul, Ed.smul_smul hp j k, Nat.succ_mul, E.smul_add hp]
theorem Ed.add_four (hp : E.on p) (hq : E.on q) (hr : E.on r) {t : P2 n} (ht : E.on t) : E.add (E.add p q) (E.add r t) = E.add (E.add p r) (E.add q t) := by
  rw [E.add_assoc hp hq (E.add_on hr ht), ← E.add_assoc hq hr ht, E.add_comm q r, E.add_assoc hr hq ht, ← E.add_assoc hp hr (E.add_on hq ht)]
theorem Ed.smul_dist (hp : E.on p) (hq : E.on q) : ∀ k, E.smul k (E.add p q) = E.add (E.smul k p) (E.smul k q)
  | 0 => (E.add_zero E.zero_on).symm
  | k + 1 => by rw [Ed.smul, Ed.smul_dist hp hq k, E.add_four (E.smul_on hp k) (E.smul_on hq k) hp hq]; rfl
theorem Ed.smul_double (hp : E.on p) (k : Nat) : E.smul (2 * k) p = E.add (E.smul k p) (E.smul k p) := by rw [Nat.two_mul, E.smul_add hp]
theorem Ed.cancel_right (hp : E.on p) (hq : E.on q) (hr : E.on r) (h : E.add p r = E.add q r) : p = q := by
  have k := congrArg (fun x => E.add x r.neg) h
  rwa [E.add_assoc hp hr (E.neg_on hr), E.add_assoc hq hr (E.neg_on hr), E.add_neg hr, E.add_zero hp, E.add_zero hq] at k
end
/-- Four numbers for a point. -/
structure Rep (x y z t : Fin n) (p : P2 n) : Prop where
  z0 : z ≠ 0
  x : x = p.x * z
  y : y = p.y * z
  t : t = p.x * p.y * z
theorem rep_plus_id (d x1 y1 z1 x2 y2 z2 : Fin n) :
    (y1*z1 + x1*z1)*(y2*z2 + x2*z2) - (y1*z1 - x1*z1)*(y2*z2 - x2*z2) = 2*(z1*z2)*(x1*y2 + y1*x2) ∧
    (z1*z2 + z1*z2) - ((x1*y1*z1)*(x2*y2*z2)*d + (x1*y1*z1)*(x2*y2*z2)*d) = 2*(z1*z2)*(1 - d*x1*x2*y1*y2) ∧
    (z1*z2 + z1*z2) + ((x1*y1*z1)*(x2*y2*z2)*d + (x1*y1*z1)*(x2*y2*z2)*d) = 2*(z1*z2)*(1 + d*x1*x2*y1*y2) ∧
    (y1*z1 + x1*z1)*(y2*z2 + x2*z2) + (y1*z1 - x1*z1)*(y2*z2 - x2*z2) = 2*(z1*z2)*(y1*y2 + x1*x2) := by
  refine ⟨?_, ?_, ?_, ?_⟩ <;> grind
theorem Rep.plus (E : Ed K) (ha : E.a = 0 - 1) {x1 y1 z1 t1 x2 y2 z2 t2 : Fin n} {p q : P2 n} (hp : Rep x1 y1 z1 t1 p) (hq : Rep x2 y2 z2 t2 q) (op : E.on p) (oq : E.on q) {e f g h : Fin n}
    (he : e = (y1 + x1)*(y2 + x2) - (y1 - x1)*(y2 - x2)) (hf : f = (z1*z2 + z1*z2) - (t1*t2*E.d + t1*t2*E.d)) (hg : g = (z1*z2 + z1*z2) + (t1*t2*E.d + t1*t2*E.d)) (hh : h = (y1 + x1)*(y2 + x2) + (y1 - x1)*(y2 - x2)) :
    Rep (e * f) (g * h) (f * g) (e * h) (E.add p q) := by
  obtain ⟨i1, i2, i3, i4⟩ := rep_plus_id E.d p.x p.y z1 q.x q.y z2
  rw [hp.x, hp.y, hq.x, hq.y] at he hh
  rw [hp.t, hq.t] at hf hg
  rw [i1] at he
  rw [i2] at hf
  rw [i3] at hg
  rw [i4] at hh
  have hz1 := hp.z0
  have hz2 := hq.z0
  obtain ⟨sx, sy⟩ := E.add_spec op oq
  have n1 := E.plus_ne op oq
  have n2 := E.minus_ne op oq
  generalize E.add p q = r at *
  unfold Ed.dl at *
  have hc : 2 * (z1 * z2) ≠ 0 := fun h0 => (K.mul_zero _ _ h0).elim K.two_ne (fun h => (K.mul_zero _ _ h).elim hz1 hz2)
  clear i1 i2 i3 i4 hp hq hz1 hz2
  have sy' : r.y * (1 - E.d * p.x * q.x * p.y * q.y) = p.y * q.y + p.x * q.x := by rw [sy, ha]; clear sy sx he hf hg hh n1 n2 hc; grind
  rw [← sx] at he
  rw [← sy'] at hh
  generalize 1 + E.d * p.x * q.x * p.y * q.y = P at *
  generalize 1 - E.d * p.x * q.x * p.y * q.y = M at *
  generalize 2 * (z1 * z2) = c at *
  clear sx sy sy' op oq
  subst he hf hg hh
  refine ⟨fun h0 => (K.mul_zero _ _ h0).elim (fun h => (K.mul_zero _ _ h).elim hc n2) (fun h => (K.mul_zero _ _ h).elim hc n1), ?_, ?_, ?_⟩
  · clear hc n1 n2; grind
  · clear hc n1 n2; grind
  · clear hc n1 n2; grind
end Go.Proofs.Ytjiiccainfhgkaa
