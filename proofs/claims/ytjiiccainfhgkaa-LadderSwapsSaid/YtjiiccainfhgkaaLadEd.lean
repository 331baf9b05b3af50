/- MONTGOMERY: the number of a point on a curve a*x^2 + y^2 = 1 + d*x^2*y^2 by numbers alone. Plain laws, over whatever field. -/
import Derived.Test.YtjiiccainfhgkaaEdw2
namespace Go.Proofs.Ytjiiccainfhgkaa
set_option linter.unusedVariables false
set_option linter.unusedSectionVars false
variable {n : Nat} [NeZero n] {K : Fl n}
/-- (X : Z) is as (1 + y : s*(1 - y)). -/
structure Kp (s X Z : Fin n) (p : P2 n) : Prop where
  eq : s * X * (1 - p.y) = Z * (1 + p.y)
  ne : ¬ (X = 0 ∧ Z = 0)
structure Mo (E : Ed K) (s c : Fin n) : Prop where
  ss : s * s = 1
  hc : (s = 1 ∧ c * (E.a - E.d) = E.d) ∨ (s = 0 - 1 ∧ c * (E.a - E.d) = 0 - E.a)
theorem kp_scale_id {s X Z y i : Fin n} (hs : s * s = 1) (h : s * X * (1 - y) = Z * (1 + y)) (hi : 2 * i = 1) : X = (s * Z + X) * i * (1 + y) ∧ Z = s * ((s * Z + X) * i) * (1 - y) := by
  have h1 : X * (1 - y) = s * Z * (1 + y) := by
    have : s * (s * X * (1 - y)) = s * (Z * (1 + y)) := by rw [h]
    have e : s * (s * X * (1 - y)) = s * s * (X * (1 - y)) := by clear h this hi hs; grind
    rw [e, hs] at this
    clear hs h hi e
    grind
  constructor
  · have : (s * Z + X) * i * (1 + y) = i * (s * Z * (1 + y)) + i * X * (1 + y) := by clear h h1 hi hs; grind
    rw [this, ← h1]
    have : i * (X * (1 - y)) + i * X * (1 + y) = 2 * i * X := by clear h h1 hi hs this; grind
    rw [this, hi]
    clear h h1 hi hs this
    grind
  · have : s * ((s * Z + X) * i) * (1 - y) = i * (s * s) * Z * (1 - y) + i * (s * X * (1 - y)) := by clear h h1 hi hs; grind
    rw [this, h, hs]
    have : i * 1 * Z * (1 - y) + i * (Z * (1 + y)) = 2 * i * Z := by clear h h1 hi hs this; grind
    rw [this, hi]
    clear h h1 hi hs this
    grind
theorem Kp.scale (K : Fl n) {s X Z : Fin n} {p : P2 n} (hs : s * s = 1) (h : Kp s X Z p) : ∃ l : Fin n, l ≠ 0 ∧ X = l * (1 + p.y) ∧ Z = s * l * (1 - p.y) := by
  have hi := K.mul_inv _ K.two_ne
  obtain ⟨h1, h2⟩ := kp_scale_id hs h.eq hi
  refine ⟨(s * Z + X) * K.inv 2, fun h0 => h.ne ?_, h1, h2⟩
  rw [h0] at h1 h2
  exact ⟨by rw [h1]; grind, by rw [h2]; grind⟩
theorem Ed.a_ne (E : Ed K) : E.a ≠ 0 := fun h => by
  rw [← E.hs] at h
  exact (K.mul_zero _ _ h).elim E.s0 E.s0
theorem Ed.ad_ne (E : Ed K) : E.a - E.d ≠ 0 := fun h => E.nd E.s (by rw [E.hs]; exact sub_zero_eq h)
theorem two4 (K : Fl n) {x : Fin n} (h : 16 * x = 0) : x = 0 := by
  have h2 : 2 * (2 * (2 * (2 * x))) = 0 := by grind
  have k : ∀ z : Fin n, 2 * z = 0 → z = 0 := fun z hz => (K.mul_zero _ _ hz).resolve_left K.two_ne
  exact k _ (k _ (k _ (k _ h2)))
/-! ### Twice -/
theorem tw_t1 {a d c x y : Fin n} (ho : a * x * x + y * y = 1 + d * x * x * y * y) (hc : c * (a - d) = d) : (a - d) * ((1 + c * (1 - y * y)) * (1 - a * x * x) - y * y) = 0 := by
  have : (a - d) * ((1 + c * (1 - y * y)) * (1 - a * x * x) - y * y) = ((a - d) + c * (a - d) * (1 - y * y)) * (1 - a * x * x) - (a - d) * (y * y) := by clear ho hc; grind
  rw [this, hc]
  clear this hc
  grind
theorem tw_t2 {a d c x y : Fin n} (ho : a * x * x + y * y = 1 + d * x * x * y * y) (hc : c * (a - d) = 0 - a) : (a - d) * ((y * y - c * (1 - y * y)) * (1 - a * x * x) - y * y) = 0 := by
  have : (a - d) * ((y * y - c * (1 - y * y)) * (1 - a * x * x) - y * y) = ((a - d) * (y * y) - c * (a - d) * (1 - y * y)) * (1 - a * x * x) - (a - d) * (y * y) := by clear ho hc; grind
  rw [this, hc]
  clear this hc
  grind
theorem tw_e1 {l y A c : Fin n} (ht : (1 + c * (1 - y * y)) * (1 - A) = y * y) :
    16 * (l * l * l * l) * (y * y) * (2 - 2 * (y * y)) = 16 * (l * l * l * l) * ((1 - y * y) * (1 + c * (1 - y * y))) * (2 - 2 * A) := by grind
theorem tw_e2 {l y A c : Fin n} (ht : (y * y - c * (1 - y * y)) * (1 - A) = y * y) :
    16 * (l * l * l * l) * (y * y) * (2 - 2 * (y * y)) = 16 * (l * l * l * l) * ((1 - y * y) * (y * y - c * (1 - y * y))) * (2 - 2 * A) := by grind
theorem tw_s1 {l y : Fin n} : (l * (1 + y) + 1 * l * (1 - y)) * (l * (1 + y) + 1 * l * (1 - y)) = 4 * (l * l) ∧ (l * (1 + y) - 1 * l * (1 - y)) * (l * (1 + y) - 1 * l * (1 - y)) = 4 * (l * l) * (y * y) := by constructor <;> grind
theorem tw_s2 {l y : Fin n} : (l * (1 + y) + (0 - 1) * l * (1 - y)) * (l * (1 + y) + (0 - 1) * l * (1 - y)) = 4 * (l * l) * (y * y) ∧ (l * (1 + y) - (0 - 1) * l * (1 - y)) * (l * (1 + y) - (0 - 1) * l * (1 - y)) = 4 * (l * l) := by constructor <;> grind
theorem tw_p1 {l y c : Fin n} : 4 * (l * l) * (4 * (l * l) * (y * y)) = 16 * (l * l * l * l) * (y * y) ∧ (4 * (l * l) - 4 * (l * l) * (y * y)) * (4 * (l * l) + c * (4 * (l * l) - 4 * (l * l) * (y * y))) = 16 * (l * l * l * l) * ((1 - y * y) * (1 + c * (1 - y * y))) := by constructor <;> grind
theorem tw_p2 {l y c : Fin n} : 4 * (l * l) * (y * y) * (4 * (l * l)) = 16 * (l * l * l * l) * (y * y) ∧ (4 * (l * l) * (y * y) - 4 * (l * l)) * (4 * (l * l) * (y * y) + c * (4 * (l * l) * (y * y) - 4 * (l * l))) = 0 - 16 * (l * l * l * l) * ((1 - y * y) * (y * y - c * (1 - y * y))) := by constructor <;> grind
theorem dn_id {a d x y r : Fin n} (ho : a * x * x + y * y = 1 + d * x * x * y * y) (hr : r * (1 - d * x * x * y * y) = y * y - a * x * x) : (1 - d * x * x * y * y) * (1 - r) = 2 - 2 * (y * y) ∧ (1 - d * x * x * y * y) * (1 + r) = 2 - 2 * (a * x * x) := by
  constructor <;> grind
theorem cross1 {D P Q r u v : Fin n} (h1 : D * (1 - r) = u) (h2 : D * (1 + r) = v) (h : P * u = Q * v) : D * (1 * P * (1 - r)) = D * (Q * (1 + r)) := by
  have e1 : D * (1 * P * (1 - r)) = P * (D * (1 - r)) := by clear h1 h2 h; grind
  have e2 : D * (Q * (1 + r)) = Q * (D * (1 + r)) := by clear h1 h2 h e1; grind
  rw [e1, e2, h1, h2, h]
theorem cross2 {D P Q r u v : Fin n} (h1 : D * (1 - r) = u) (h2 : D * (1 + r) = v) (h : P * u = Q * v) : D * ((0 - 1) * P * (1 - r)) = D * ((0 - Q) * (1 + r)) := by
  have e1 : D * ((0 - 1) * P * (1 - r)) = 0 - P * (D * (1 - r)) := by clear h1 h2 h; grind
  have e2 : D * ((0 - Q) * (1 + r)) = 0 - Q * (D * (1 + r)) := by clear h1 h2 h e1; grind
  rw [e1, e2, h1, h2, h]
theorem Fl.ne_mul (K : Fl n) {x y : Fin n} (hx : x ≠ 0) (hy : y ≠ 0) : x * y ≠ 0 := fun h => (K.mul_zero _ _ h).elim hx hy
theorem Kp.twice {E : Ed K} {s c X Z : Fin n} {p : P2 n} (M : Mo E s c) (h : Kp s X Z p) (hp : E.on p) :
    Kp s ((X + Z) * (X + Z) * ((X - Z) * (X - Z))) (((X + Z) * (X + Z) - (X - Z) * (X - Z)) * ((X + Z) * (X + Z) + c * ((X + Z) * (X + Z) - (X - Z) * (X - Z)))) (E.add p p) := by
  obtain ⟨l, l0, hX, hZ⟩ := h.scale K M.ss
  obtain ⟨-, sy⟩ := E.add_spec hp hp
  have n2 := E.minus_ne hp hp
  have had := E.ad_ne
  have ha := E.a_ne
  have l4 : l * l * l * l ≠ 0 := K.ne_mul (K.ne_mul (K.ne_mul l0 l0) l0) l0
  obtain ⟨dn1, dn2⟩ := dn_id hp sy
  have hon : E.a * p.x * p.x + p.y * p.y = 1 + E.d * p.x * p.x * p.y * p.y := hp
  generalize E.add p p = r at *
  unfold Ed.dl at *
  obtain ⟨ss, ⟨hs, hc⟩ | ⟨hs, hc⟩⟩ := M
  · subst hs
    rw [hX, hZ, tw_s1.1, tw_s1.2]
    · rw [(tw_p1 (c := c)).1, tw_p1.2]
      have ht : (1 + c * (1 - p.y * p.y)) * (1 - E.a * p.x * p.x) = p.y * p.y := by
        rcases K.mul_zero _ _ (tw_t1 hon hc) with h1 | h1
        · exact absurd h1 had
        · exact sub_zero_eq h1
      refine ⟨K.cancel n2 (cross1 dn1 dn2 (tw_e1 ht)), fun ⟨z1, z2⟩ => ?_⟩
      have hy : p.y * p.y = 0 := by
        have : 16 * (l * l * l * l * (p.y * p.y)) = 0 := by rw [← z1]; grind
        exact (K.mul_zero _ _ (two4 K this)).resolve_left l4
      rw [hy] at z2
      have : 16 * (l * l * l * l * (1 + c)) = 0 := by rw [← z2]; grind
      have h1c := (K.mul_zero _ _ (two4 K this)).resolve_left l4
      refine ha ?_
      have : E.a = (1 + c) * (E.a - E.d) := by
        have : (1 + c) * (E.a - E.d) = E.a - E.d + c * (E.a - E.d) := by clear hc z1 z2 ht; grind
        rw [this, hc]; clear hc z1 z2 ht; grind
      rw [this, h1c]; clear hc z1 z2 ht; grind
  · subst hs
    rw [hX, hZ, tw_s2.1, tw_s2.2]
    · rw [(tw_p2 (c := c)).1, tw_p2.2]
      have ht : (p.y * p.y - c * (1 - p.y * p.y)) * (1 - E.a * p.x * p.x) = p.y * p.y := by
        rcases K.mul_zero _ _ (tw_t2 hon hc) with h1 | h1
        · exact absurd h1 had
        · exact sub_zero_eq h1
      refine ⟨K.cancel n2 (cross2 dn1 dn2 (tw_e2 ht)), fun ⟨z1, z2⟩ => ?_⟩
      have hy : p.y * p.y = 0 := by
        have : 16 * (l * l * l * l * (p.y * p.y)) = 0 := by rw [← z1]; grind
        exact (K.mul_zero _ _ (two4 K this)).resolve_left l4
      rw [hy] at z2
      have : 16 * (l * l * l * l * c) = 0 := by
        have e : 16 * (l * l * l * l * c) = 0 - 16 * (l * l * l * l) * ((1 - 0) * (0 - c * (1 - 0))) := by clear z2; grind
        rw [e, z2]
      have h1c := (K.mul_zero _ _ (two4 K this)).resolve_left l4
      rw [h1c] at hc
      exact ha (by clear z1 z2 ht; grind)
/-! ### The sum, where the difference is known -/
theorem jn_s1 {l m y z : Fin n} : (m * (1 + z) + 1 * m * (1 - z)) * (l * (1 + y) - 1 * l * (1 - y)) = 4 * (l * m) * y ∧ (m * (1 + z) - 1 * m * (1 - z)) * (l * (1 + y) + 1 * l * (1 - y)) = 4 * (l * m) * z := by constructor <;> grind
theorem jn_s2 {l m y z : Fin n} : (m * (1 + z) + (0 - 1) * m * (1 - z)) * (l * (1 + y) - (0 - 1) * l * (1 - y)) = 4 * (l * m) * z ∧ (m * (1 + z) - (0 - 1) * m * (1 - z)) * (l * (1 + y) + (0 - 1) * l * (1 - y)) = 4 * (l * m) * y := by constructor <;> grind
theorem jn_p {w y z : Fin n} : (4 * w * y + 4 * w * z) * (4 * w * y + 4 * w * z) = 16 * (w * w) * ((y + z) * (y + z)) ∧ (4 * w * y - 4 * w * z) * (4 * w * y - 4 * w * z) = 16 * (w * w) * ((y - z) * (y - z)) ∧ (4 * w * z + 4 * w * y) * (4 * w * z + 4 * w * y) = 16 * (w * w) * ((y + z) * (y + z)) ∧ (4 * w * z - 4 * w * y) * (4 * w * z - 4 * w * y) = 16 * (w * w) * ((y - z) * (y - z)) := by
  refine ⟨?_, ?_, ?_, ?_⟩ <;> grind
theorem on_split {a d x y : Fin n} (h : a * x * x + y * y = 1 + d * x * x * y * y) : (a - d * (y * y)) * (x * x) = 1 - y * y := by grind
theorem Ed.ady_ne (E : Ed K) (y : Fin n) : E.a - E.d * (y * y) ≠ 0 := fun h => by
  have hy : y ≠ 0 := fun h0 => E.a_ne (by rw [h0] at h; rw [← h]; grind)
  have hi := K.mul_inv _ hy
  refine E.nd (E.s * K.inv y) ?_
  generalize K.inv y = i at *
  have e1 : E.s * i * (E.s * i) = E.s * E.s * (i * i) := by grind
  rw [e1, E.hs]
  have e2 : E.a = E.d * (y * y) := sub_zero_eq h
  rw [e2]
  have e3 : E.d * (y * y) * (i * i) = E.d * ((y * i) * (y * i)) := by clear h e1 e2 hi; grind
  rw [e3, hi]
  clear h e1 e2 e3 hi
  grind
theorem jn_id1 {a d y z x w : Fin n} : (y + z) * (y + z) * ((1 - y * z) * (1 - y * z) - (a * x * w - d * x * w * y * z) * (a * x * w - d * x * w * y * z)) - (y - z) * (y - z) * ((1 + y * z) * (1 + y * z) - (a * x * w + d * x * w * y * z) * (a * x * w + d * x * w * y * z))
    = ((y + z) * (y + z) * ((1 - y * z) * (1 - y * z)) - (y - z) * (y - z) * ((1 + y * z) * (1 + y * z))) - ((y + z) * (y + z) * ((a - d * (y * z)) * (a - d * (y * z))) - (y - z) * (y - z) * ((a + d * (y * z)) * (a + d * (y * z)))) * (x * x * (w * w)) := by grind
theorem jn_id2 {a d y z : Fin n} : (a - d * (y * y)) * (a - d * (z * z)) * ((y + z) * (y + z) * ((1 - y * z) * (1 - y * z)) - (y - z) * (y - z) * ((1 + y * z) * (1 + y * z)))
    = ((y + z) * (y + z) * ((a - d * (y * z)) * (a - d * (y * z))) - (y - z) * (y - z) * ((a + d * (y * z)) * (a + d * (y * z)))) * ((1 - y * y) * (1 - z * z)) := by grind
theorem jn_key (E : Ed K) {x y w z : Fin n} (h1 : E.a * x * x + y * y = 1 + E.d * x * x * y * y) (h2 : E.a * w * w + z * z = 1 + E.d * w * w * z * z) :
    (y + z) * (y + z) * ((1 - y * z) * (1 - y * z) - (E.a * x * w - E.d * x * w * y * z) * (E.a * x * w - E.d * x * w * y * z)) = (y - z) * (y - z) * ((1 + y * z) * (1 + y * z) - (E.a * x * w + E.d * x * w * y * z) * (E.a * x * w + E.d * x * w * y * z)) := by
  have k1 := on_split h1
  have k2 := on_split h2
  have n1 := E.ady_ne y
  have n2 := E.ady_ne z
  apply sub_zero_eq
  refine (K.mul_zero _ _ ?_).resolve_left (K.ne_mul n1 n2)
  have e := jn_id2 (a := E.a) (d := E.d) (y := y) (z := z)
  rw [jn_id1]
  generalize (y + z) * (y + z) * ((E.a - E.d * (y * z)) * (E.a - E.d * (y * z))) - (y - z) * (y - z) * ((E.a + E.d * (y * z)) * (E.a + E.d * (y * z))) = F at *
  generalize (y + z) * (y + z) * ((1 - y * z) * (1 - y * z)) - (y - z) * (y - z) * ((1 + y * z) * (1 + y * z)) = F0 at *
  generalize E.a - E.d * (y * y) = D1 at *
  generalize E.a - E.d * (z * z) = D2 at *
  have e1 : D1 * D2 * (F0 - F * (x * x * (w * w))) = D1 * D2 * F0 - F * ((D1 * (x * x)) * (D2 * (w * w))) := by clear e k1 k2 h1 h2; grind
  rw [e1, e, k1, k2]
  clear e e1 k1 k2 h1 h2
  grind
theorem jn_dn {t A Y r q : Fin n} (h : r * (1 - t) = Y - A) (k : q * (1 + t) = Y + A) : (1 - t) * (1 - r) = 1 - t - (Y - A) ∧ (1 - t) * (1 + r) = 1 - t + (Y - A) ∧ (1 + t) * (1 - q) = 1 + t - (Y + A) ∧ (1 + t) * (1 + q) = 1 + t + (Y + A) := by
  refine ⟨?_, ?_, ?_, ?_⟩ <;> grind
theorem jn_sq {t A Y : Fin n} : (1 - t - (Y - A)) * (1 + t - (Y + A)) = (1 - Y) * (1 - Y) - (A - t) * (A - t) ∧ (1 + t + (Y + A)) * (1 - t + (Y - A)) = (1 + Y) * (1 + Y) - (A + t) * (A + t) := by
  constructor <;> grind
theorem jn_fin {W T P M u s al be ga de : Fin n} (hu : s * u * al = be) (hk : P * (ga * al) = M * (be * de)) (ss : s * s = 1) : al * (s * (W * P) * ga) = al * (u * (W * M) * de) := by
  have e1 : al * (s * (W * P) * ga) = s * W * (P * (ga * al)) := by clear hu hk ss; grind
  have e2 : s * W * (M * (s * u * al * de)) = s * s * (al * (u * (W * M) * de)) := by clear hu hk ss e1; grind
  rw [e1, hk, ← hu, e2, ss]
  clear hu hk ss e1 e2
  grind
theorem Kp.joined {E : Ed K} {s X Z X' Z' u : Fin n} {p q : P2 n} (ss : s * s = 1) (hs : s = 1 ∨ s = 0 - 1) (h : Kp s X Z p) (h' : Kp s X' Z' q) (hp : E.on p) (hq : E.on q) (hu : Kp s u 1 (E.add q p.neg)) (u0 : u ≠ 0) :
    Kp s (((X' + Z') * (X - Z) + (X' - Z') * (X + Z)) * ((X' + Z') * (X - Z) + (X' - Z') * (X + Z))) (u * (((X' + Z') * (X - Z) - (X' - Z') * (X + Z)) * ((X' + Z') * (X - Z) - (X' - Z') * (X + Z)))) (E.add p q) := by
  obtain ⟨l, l0, hX, hZ⟩ := h.scale K ss
  obtain ⟨m, m0, hX', hZ'⟩ := h'.scale K ss
  obtain ⟨-, sy⟩ := E.add_spec hp hq
  obtain ⟨-, ty⟩ := E.add_spec hq (E.neg_on hp)
  have n2 := E.minus_ne hp hq
  have n3 := E.minus_ne hq (E.neg_on hp)
  have key := jn_key E (x := p.x) (y := p.y) (w := q.x) (z := q.y) hp hq
  have hon1 : E.a * p.x * p.x + p.y * p.y = 1 + E.d * p.x * p.x * p.y * p.y := hp
  have hon2 : E.a * q.x * q.x + q.y * q.y = 1 + E.d * q.x * q.x * q.y * q.y := hq
  have w0 : l * m * (l * m) ≠ 0 := K.ne_mul (K.ne_mul l0 m0) (K.ne_mul l0 m0)
  have ee : ((X' + Z') * (X - Z) + (X' - Z') * (X + Z)) * ((X' + Z') * (X - Z) + (X' - Z') * (X + Z)) = 16 * (l * m * (l * m)) * ((p.y + q.y) * (p.y + q.y)) ∧ ((X' + Z') * (X - Z) - (X' - Z') * (X + Z)) * ((X' + Z') * (X - Z) - (X' - Z') * (X + Z)) = 16 * (l * m * (l * m)) * ((p.y - q.y) * (p.y - q.y)) := by
    rw [hX, hZ, hX', hZ']
    rcases hs with rfl | rfl
    · rw [jn_s1.1, jn_s1.2]
      exact ⟨jn_p.1, jn_p.2.1⟩
    · rw [jn_s2.1, jn_s2.2]
      exact ⟨jn_p.2.2.1, jn_p.2.2.2⟩
  rw [ee.1, ee.2]
  clear ee hX hZ hX' hZ' h h'
  have hue := hu.eq
  generalize E.add p q = r at *
  generalize E.add q p.neg = r' at *
  unfold Ed.dl P2.neg at *
  dsimp only at *
  have sy' : r.y * (1 - E.d * p.x * q.x * p.y * q.y) = p.y * q.y - E.a * p.x * q.x := sy
  have ty' : r'.y * (1 + E.d * p.x * q.x * p.y * q.y) = p.y * q.y + E.a * p.x * q.x := by
    have e1 : 1 - E.d * q.x * (0 - p.x) * q.y * p.y = 1 + E.d * p.x * q.x * p.y * q.y := by clear key sy ty hue hon1 hon2; grind
    rw [← e1, ty]; clear key sy ty hue hon1 hon2 e1; grind
  have n3' : 1 + E.d * p.x * q.x * p.y * q.y ≠ 0 := fun h0 => n3 (by rw [← h0]; clear key sy ty hue hon1 hon2; grind)
  obtain ⟨d1, d2, d3, d4⟩ := jn_dn sy' ty'
  have q1 := (jn_sq (t := E.d * p.x * q.x * p.y * q.y) (A := E.a * p.x * q.x) (Y := p.y * q.y)).1
  have q2 := (jn_sq (t := E.d * p.x * q.x * p.y * q.y) (A := E.a * p.x * q.x) (Y := p.y * q.y)).2
  rw [← q1, ← q2, ← d1, ← d2, ← d3, ← d4] at key
  clear q1 q2 d1 d2 d3 d4
  have hne : (1 + E.d * p.x * q.x * p.y * q.y) * (1 - r'.y) ≠ 0 := K.ne_mul n3' fun h0 => by
    rw [h0] at hue
    have : r'.y = 1 := by clear key hue sy ty sy' ty'; grind
    rw [this] at hue
    exact K.two_ne (by clear key sy ty sy' ty' h0 this; grind)
  have hu2 : s * u * ((1 + E.d * p.x * q.x * p.y * q.y) * (1 - r'.y)) = (1 + E.d * p.x * q.x * p.y * q.y) * (1 + r'.y) := by
    have : s * u * ((1 + E.d * p.x * q.x * p.y * q.y) * (1 - r'.y)) = (1 + E.d * p.x * q.x * p.y * q.y) * (s * u * (1 - r'.y)) := by clear key hue sy ty sy' ty'; grind
    rw [this, hue]; clear key hue sy ty sy' ty' this; grind
  refine ⟨?_, fun ⟨z1, z2⟩ => ?_⟩
  · refine K.cancel n2 (K.cancel hne ?_)
    have := jn_fin (W := 16 * (l * m * (l * m))) (T := 0) hu2 key ss
    generalize (1 + E.d * p.x * q.x * p.y * q.y) * (1 - r'.y) = al at *
    generalize 1 - E.d * p.x * q.x * p.y * q.y = D at *
    have e1 : al * (D * (s * (16 * (l * m * (l * m)) * ((p.y + q.y) * (p.y + q.y))) * (1 - r.y))) = al * (s * (16 * (l * m * (l * m)) * ((p.y + q.y) * (p.y + q.y))) * (D * (1 - r.y))) := by clear key hue sy ty sy' ty' this hu2 hon1 hon2; grind
    have e2 : al * (D * (u * (16 * (l * m * (l * m)) * ((p.y - q.y) * (p.y - q.y))) * (1 + r.y))) = al * (u * (16 * (l * m * (l * m)) * ((p.y - q.y) * (p.y - q.y))) * (D * (1 + r.y))) := by clear key hue sy ty sy' ty' this hu2 hon1 hon2 e1; grind
    rw [e1, e2, this]
  · have hy1 : p.y + q.y = 0 := by
      have : 16 * (l * m * (l * m) * ((p.y + q.y) * (p.y + q.y))) = 0 := by rw [← z1]; clear key hue sy ty sy' ty' hu2 hon1 hon2 z1 z2; grind
      have := (K.mul_zero _ _ (two4 K this)).resolve_left w0
      exact (K.mul_zero _ _ this).elim id id
    have hy2 : p.y - q.y = 0 := by
      have := (K.mul_zero _ _ z2).resolve_left u0
      have : 16 * (l * m * (l * m) * ((p.y - q.y) * (p.y - q.y))) = 0 := by rw [← this]; clear key hue sy ty sy' ty' hu2 hon1 hon2 z1 z2 this; grind
      have := (K.mul_zero _ _ (two4 K this)).resolve_left w0
      exact (K.mul_zero _ _ this).elim id id
    have y0 : p.y = 0 := by
      have : 2 * p.y = 0 := by clear key hue sy ty sy' ty' hu2 hon1 hon2 z1 z2; grind
      exact (K.mul_zero _ _ this).resolve_left K.two_ne
    have y1 : q.y = 0 := by rw [y0] at hy1; clear key hue sy ty sy' ty' hu2 hon1 hon2 z1 z2; grind
    rw [y0, y1] at ty'
    rw [y0] at hon1
    rw [y1] at hon2
    have hr : r'.y * r'.y = 1 := by
      have a1 : E.a * p.x * p.x = 1 := by clear key hue sy ty sy' ty' hu2 hon2 z1 z2; grind
      have a2 : E.a * q.x * q.x = 1 := by clear key hue sy ty sy' ty' hu2 hon1 z1 z2 a1; grind
      have e1 : r'.y = E.a * p.x * q.x := by clear key hue sy ty sy' hu2 hon1 hon2 z1 z2 a1 a2; grind
      rw [e1]
      have e2 : E.a * p.x * q.x * (E.a * p.x * q.x) = (E.a * p.x * p.x) * (E.a * q.x * q.x) := by clear key hue sy ty sy' ty' hu2 hon1 hon2 z1 z2 a1 a2 e1; grind
      rw [e2, a1, a2]; clear key hue sy ty sy' ty' hu2 hon1 hon2 z1 z2 a1 a2 e1 e2; grind
    have hcase : (r'.y - 1) * (r'.y + 1) = 0 := by clear key hue sy ty sy' ty' hu2 hon1 hon2 z1 z2; grind
    rcases K.mul_zero _ _ hcase with h1 | h1
    · have : r'.y = 1 := sub_zero_eq h1
      rw [this] at hue
      exact K.two_ne (by clear key sy ty sy' ty' hu2 hon1 hon2 z1 z2 h1 this hr hcase; grind)
    · have e1 : r'.y = 0 - 1 := by clear key hue sy ty sy' ty' hu2 hon1 hon2 z1 z2 hcase hr; grind
      rw [e1] at hue
      have : 2 * (s * u) = 0 := by clear key sy ty sy' ty' hu2 hon1 hon2 z1 z2 h1 e1 hr hcase; grind
      have h2 := (K.mul_zero _ _ this).resolve_left K.two_ne
      refine u0 ?_
      have : s * (s * u) = 0 := by rw [h2]; clear key sy ty sy' ty' hu2 hon1 hon2 z1 z2 h1 e1 hr hcase hue this; grind
      have e2 : s * (s * u) = s * s * u := by clear key sy ty sy' ty' hu2 hon1 hon2 z1 z2 h1 e1 hr hcase hue this; grind
      rw [e2, ss] at this
      clear key sy ty sy' ty' hu2 hon1 hon2 z1 z2 h1 e1 hr hcase hue
      grind
end Go.Proofs.Ytjiiccainfhgkaa
