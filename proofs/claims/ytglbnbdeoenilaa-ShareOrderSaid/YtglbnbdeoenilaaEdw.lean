/- The curve a*x^2 + y^2 = 1 + d*x^2*y^2, a a square, d none: its points are a group (EDWARDS; BERNSTEIN, LANGE). Plain laws, over whatever field of p elements. -/
import Derived.Test.YtglbnbdeoenilaaEdwId
namespace Go.Proofs.Ytglbnbdeoenilaa
set_option linter.unusedVariables false
/-- The numbers modulo p are a field. -/
structure Fl (n : Nat) [NeZero n] where
  inv : Fin n → Fin n
  mul_inv : ∀ a : Fin n, a ≠ 0 → a * inv a = 1
  mul_zero : ∀ a b : Fin n, a * b = 0 → a = 0 ∨ b = 0
  one_ne : (1 : Fin n) ≠ 0
  two_ne : (2 : Fin n) ≠ 0
variable {n : Nat} [NeZero n] {K : Fl n}
theorem sub_zero_eq {a b : Fin n} (h : a - b = 0) : a = b := by grind
theorem mul_sub_zero {a b c : Fin n} (h : a * b = a * c) : a * (b - c) = 0 := by grind
theorem Fl.cancel (K : Fl n) {a b c : Fin n} (ha : a ≠ 0) (h : a * b = a * c) : b = c := by
  rcases K.mul_zero _ _ (mul_sub_zero h) with h1 | h1
  · exact absurd h1 ha
  · exact sub_zero_eq h1
structure Ed (K : Fl n) where
  a : Fin n
  d : Fin n
  s : Fin n
  hs : s * s = a
  s0 : s ≠ 0
  nd : ∀ w : Fin n, w * w ≠ d
structure P2 (n : Nat) where
  x : Fin n
  y : Fin n
set_option linter.unusedSectionVars false
theorem P2.ext' {p q : P2 n} (h : p.x = q.x) (k : p.y = q.y) : p = q := by cases p; cases q; cases h; cases k; rfl
def Ed.on (E : Ed K) (p : P2 n) : Prop := E.a * p.x * p.x + p.y * p.y = 1 + E.d * p.x * p.x * p.y * p.y
def Ed.dl (E : Ed K) (p q : P2 n) : Fin n := E.d * p.x * q.x * p.y * q.y
def Ed.add (E : Ed K) (p q : P2 n) : P2 n := ⟨(p.x * q.y + p.y * q.x) * K.inv (1 + E.dl p q), (p.y * q.y - E.a * p.x * q.x) * K.inv (1 - E.dl p q)⟩
def P2.zero : P2 n := ⟨0, 1⟩
def P2.neg (p : P2 n) : P2 n := ⟨0 - p.x, p.y⟩
theorem on_poly {a d x y : Fin n} (h : a * x * x + y * y = 1 + d * x * x * y * y) : d * x * x * y * y - y * y - a * x * x + 1 = 0 := by grind
theorem two_zero {s x y : Fin n} (h1 : s * x + 1 * y = 0) (h2 : s * x + (0 - 1) * y = 0) : 2 * (s * x) = 0 := by grind
theorem neg_one_sq : (0 - 1 : Fin n) * (0 - 1) = 1 := by grind
theorem one_sq : (1 : Fin n) * 1 = 1 := by grind
theorem Ed.d0 (E : Ed K) : E.d ≠ 0 := fun h => E.nd 0 (by rw [h]; grind)
/-- What is to be divided by is never 0. -/
theorem Ed.complete (E : Ed K) {p q : P2 n} (hp : E.on p) (hq : E.on q) (h : E.dl p q * E.dl p q = 1) : False := by
  obtain ⟨x1, y1⟩ := p
  obtain ⟨x2, y2⟩ := q
  obtain ⟨a, d, s, hs, s0, nd⟩ := E
  simp only [Ed.on, Ed.dl] at *
  have hd0 : d ≠ 0 := fun h0 => nd 0 (by rw [h0]; grind)
  have hx1 : x1 ≠ 0 := fun h0 => by
    rw [h0] at h
    exact K.one_ne (by grind)
  have hy1 : y1 ≠ 0 := fun h0 => by
    rw [h0] at h
    exact K.one_ne (by grind)
  have hx2 : x2 ≠ 0 := fun h0 => by
    rw [h0] at h
    exact K.one_ne (by grind)
  -- (s x1 + D y1)^2 = d x1^2 y1^2 (s x2 + y2)^2, and with the other sign
  have e0 : a * x1 * x1 + y1 * y1 = d * x1 * x1 * y1 * y1 * (a * x2 * x2 + y2 * y2) := by
    rw [hq, hp]
    have : d * x1 * x1 * y1 * y1 * (1 + d * x2 * x2 * y2 * y2) = d * x1 * x1 * y1 * y1 + d * x1 * x2 * y1 * y2 * (d * x1 * x2 * y1 * y2) := by grind
    rw [this, h]
    grind
  have key : ∀ t : Fin n, t * t = 1 → (s * x1 + t * (d * x1 * x2 * y1 * y2) * y1) * (s * x1 + t * (d * x1 * x2 * y1 * y2) * y1) = d * (x1 * y1) * (x1 * y1) * ((s * x2 + t * y2) * (s * x2 + t * y2)) := by
    intro t ht
    have : (s * x1 + t * (d * x1 * x2 * y1 * y2) * y1) * (s * x1 + t * (d * x1 * x2 * y1 * y2) * y1) = s * s * x1 * x1 + t * t * (d * x1 * x2 * y1 * y2 * (d * x1 * x2 * y1 * y2)) * (y1 * y1) + 2 * s * t * x1 * y1 * (d * x1 * x2 * y1 * y2) := by grind
    rw [this, h, hs, ht]
    have e1 : a * x1 * x1 + 1 * 1 * (y1 * y1) = d * x1 * x1 * y1 * y1 * (a * x2 * x2 + y2 * y2) := by rw [← e0]; grind
    rw [e1, ← hs]
    have e2 : d * (x1 * y1) * (x1 * y1) * ((s * x2 + t * y2) * (s * x2 + t * y2)) = d * (x1 * y1) * (x1 * y1) * (s * s * x2 * x2 + t * t * (y2 * y2) + 2 * s * t * x2 * y2) := by grind
    rw [e2, ht]
    grind
  have fin : ∀ t : Fin n, t * t = 1 → s * x2 + t * y2 ≠ 0 → False := fun t ht hne => by
    have hz : x1 * y1 * (s * x2 + t * y2) ≠ 0 := fun h0 => by
      rcases K.mul_zero _ _ h0 with h1 | h1
      · rcases K.mul_zero _ _ h1 with h2 | h2
        · exact hx1 h2
        · exact hy1 h2
      · exact hne h1
    have hi := K.mul_inv _ hz
    refine nd ((s * x1 + t * (d * x1 * x2 * y1 * y2) * y1) * K.inv (x1 * y1 * (s * x2 + t * y2))) ?_
    have k := key t ht
    generalize K.inv (x1 * y1 * (s * x2 + t * y2)) = i at *
    generalize s * x1 + t * (d * x1 * x2 * y1 * y2) * y1 = u at *
    generalize s * x2 + t * y2 = v at *
    have : u * i * (u * i) = u * u * (i * i) := by grind
    rw [this, k]
    have : d * (x1 * y1) * (x1 * y1) * (v * v) * (i * i) = d * ((x1 * y1 * v * i) * (x1 * y1 * v * i)) := by grind
    rw [this, hi]
    grind
  by_cases h1 : s * x2 + 1 * y2 = 0
  · by_cases h2 : s * x2 + (0 - 1) * y2 = 0
    · have := two_zero h1 h2
      rcases K.mul_zero _ _ this with h3 | h3
      · exact K.two_ne h3
      · rcases K.mul_zero _ _ h3 with h4 | h4
        · exact s0 h4
        · exact hx2 h4
    · exact fin (0 - 1) neg_one_sq h2
  · exact fin 1 one_sq h1
theorem Ed.plus_ne (E : Ed K) {p q : P2 n} (hp : E.on p) (hq : E.on q) : 1 + E.dl p q ≠ 0 := fun h => E.complete hp hq (by grind)
theorem Ed.minus_ne (E : Ed K) {p q : P2 n} (hp : E.on p) (hq : E.on q) : 1 - E.dl p q ≠ 0 := fun h => E.complete hp hq (by grind)
/-- The sum is what makes both equations. -/
theorem Ed.add_spec (E : Ed K) {p q : P2 n} (hp : E.on p) (hq : E.on q) : (E.add p q).x * (1 + E.dl p q) = p.x * q.y + p.y * q.x ∧ (E.add p q).y * (1 - E.dl p q) = p.y * q.y - E.a * p.x * q.x := by
  have h1 := K.mul_inv _ (E.plus_ne hp hq)
  have h2 := K.mul_inv _ (E.minus_ne hp hq)
  unfold Ed.add
  dsimp only
  generalize K.inv (1 + E.dl p q) = u at *
  generalize K.inv (1 - E.dl p q) = v at *
  generalize E.dl p q = t at *
  constructor
  · have : (p.x * q.y + p.y * q.x) * u * (1 + t) = (p.x * q.y + p.y * q.x) * ((1 + t) * u) := by grind
    rw [this, h1]; grind
  · have : (p.y * q.y - E.a * p.x * q.x) * v * (1 - t) = (p.y * q.y - E.a * p.x * q.x) * ((1 - t) * v) := by grind
    rw [this, h2]; grind
theorem Ed.add_of (E : Ed K) {p q r : P2 n} (hp : E.on p) (hq : E.on q) (hx : r.x * (1 + E.dl p q) = p.x * q.y + p.y * q.x) (hy : r.y * (1 - E.dl p q) = p.y * q.y - E.a * p.x * q.x) : E.add p q = r := by
  obtain ⟨kx, ky⟩ := E.add_spec hp hq
  apply P2.ext'
  · exact K.cancel (E.plus_ne hp hq) (by rw [← hx] at kx; grind)
  · exact K.cancel (E.minus_ne hp hq) (by rw [← hy] at ky; grind)
theorem Ed.zero_on (E : Ed K) : E.on P2.zero := by unfold Ed.on P2.zero; dsimp only; grind
theorem Ed.neg_on (E : Ed K) {p : P2 n} (h : E.on p) : E.on p.neg := by unfold Ed.on P2.neg at *; dsimp only at *; grind
theorem Ed.add_comm (E : Ed K) (p q : P2 n) : E.add p q = E.add q p := by
  have h : E.dl p q = E.dl q p := by unfold Ed.dl; grind
  unfold Ed.add
  rw [h]
  apply P2.ext'
  · dsimp only; grind
  · dsimp only; grind
theorem Ed.add_zero (E : Ed K) {p : P2 n} (h : E.on p) : E.add p P2.zero = p := by
  refine E.add_of h E.zero_on ?_ ?_
  · unfold Ed.dl P2.zero; dsimp only; grind
  · unfold Ed.dl P2.zero; dsimp only; grind
theorem Ed.add_neg (E : Ed K) {p : P2 n} (h : E.on p) : E.add p p.neg = P2.zero := by
  refine E.add_of h (E.neg_on h) ?_ ?_
  · unfold Ed.dl P2.neg P2.zero; dsimp only; grind
  · unfold Ed.on at h; unfold Ed.dl P2.neg P2.zero; dsimp only; grind
theorem Ed.add_on (E : Ed K) {p q : P2 n} (hp : E.on p) (hq : E.on q) : E.on (E.add p q) := by
  obtain ⟨kx, ky⟩ := E.add_spec hp hq
  have n1 := E.plus_ne hp hq
  have n2 := E.minus_ne hp hq
  generalize E.add p q = r at *
  obtain ⟨x1, y1⟩ := p
  obtain ⟨x2, y2⟩ := q
  obtain ⟨x, y⟩ := r
  unfold Ed.on Ed.dl at *
  dsimp only at *
  have hD : (1 + E.d * x1 * x2 * y1 * y2) * (1 - E.d * x1 * x2 * y1 * y2) ≠ 0 := fun h0 => (K.mul_zero _ _ h0).elim n1 n2
  have e1 : E.d * x1 * x1 * y1 * y1 - y1 * y1 - E.a * x1 * x1 + 1 = 0 := on_poly hp
  have e2 : E.d * x2 * x2 * y2 * y2 - y2 * y2 - E.a * x2 * x2 + 1 = 0 := on_poly hq
  have id := closedId x1 y1 x2 y2 E.d E.a e1 e2
  rw [← kx, ← ky] at id
  generalize 1 + E.d * x1 * x2 * y1 * y2 = m at *
  generalize 1 - E.d * x1 * x2 * y1 * y2 = n at *
  refine K.cancel hD (K.cancel hD ?_)
  clear n1 n2 hD kx ky hp hq e1 e2
  grind
theorem Ed.add_assoc (E : Ed K) {p q r : P2 n} (hp : E.on p) (hq : E.on q) (hr : E.on r) : E.add (E.add p q) r = E.add p (E.add q r) := by
  have h12 := E.add_on hp hq
  have h23 := E.add_on hq hr
  obtain ⟨kx, ky⟩ := E.add_spec hp hq
  obtain ⟨lx, ly⟩ := E.add_spec hq hr
  have n1 := E.plus_ne hp hq
  have n2 := E.minus_ne hp hq
  have m1 := E.plus_ne hq hr
  have m2 := E.minus_ne hq hr
  have w1 := E.plus_ne hp h23
  have w2 := E.minus_ne hp h23
  obtain ⟨ux, uy⟩ := E.add_spec hp h23
  generalize E.add p (E.add q r) = t at *
  generalize E.add p q = v at *
  generalize E.add q r = z at *
  refine E.add_of h12 hr ?_ ?_
  · have id := assocIdX p.x p.y q.x q.y r.x r.y E.d E.a
    have e1 : E.d * p.x * p.x * p.y * p.y - p.y * p.y - E.a * p.x * p.x + 1 = 0 := on_poly hp
    have e2 : E.d * q.x * q.x * q.y * q.y - q.y * q.y - E.a * q.x * q.x + 1 = 0 := on_poly hq
    have e3 : E.d * r.x * r.x * r.y * r.y - r.y * r.y - E.a * r.x * r.x + 1 = 0 := on_poly hr
    rw [e1, e2, e3] at id
    clear e1 e2 e3 hp hq hr h12 h23
    unfold Ed.dl at *
    rw [← kx, ← ky, ← lx, ← ly] at id
    clear kx ky lx ly uy w2
    generalize 1 + E.d * p.x * q.x * p.y * q.y = P at *
    generalize 1 - E.d * p.x * q.x * p.y * q.y = M at *
    generalize 1 + E.d * q.x * r.x * q.y * r.y = P' at *
    generalize 1 - E.d * q.x * r.x * q.y * r.y = M' at *
    have hK : P * M * (P' * M') ≠ 0 := fun h0 => (K.mul_zero _ _ h0).elim (fun h => (K.mul_zero _ _ h).elim n1 n2) (fun h => (K.mul_zero _ _ h).elim m1 m2)
    have key : P * M * (P' * M') * ((v.x * r.y + v.y * r.x) * (1 + E.d * p.x * z.x * p.y * z.y)) = P * M * (P' * M') * ((p.x * z.y + p.y * z.x) * (1 + E.d * v.x * r.x * v.y * r.y)) := by
      clear ux w1 n1 n2 m1 m2 hK
      grind
    have k2 := K.cancel hK key
    clear key hK id n1 n2 m1 m2
    rw [← ux] at k2
    refine K.cancel w1 ?_
    clear ux w1
    grind
  · have id := assocIdY p.x p.y q.x q.y r.x r.y E.d E.a
    have e1 : E.d * p.x * p.x * p.y * p.y - p.y * p.y - E.a * p.x * p.x + 1 = 0 := on_poly hp
    have e2 : E.d * q.x * q.x * q.y * q.y - q.y * q.y - E.a * q.x * q.x + 1 = 0 := on_poly hq
    have e3 : E.d * r.x * r.x * r.y * r.y - r.y * r.y - E.a * r.x * r.x + 1 = 0 := on_poly hr
    rw [e1, e2, e3] at id
    clear e1 e2 e3 hp hq hr h12 h23
    unfold Ed.dl at *
    rw [← kx, ← ky, ← lx, ← ly] at id
    clear kx ky lx ly ux w1
    generalize 1 + E.d * p.x * q.x * p.y * q.y = P at *
    generalize 1 - E.d * p.x * q.x * p.y * q.y = M at *
    generalize 1 + E.d * q.x * r.x * q.y * r.y = P' at *
    generalize 1 - E.d * q.x * r.x * q.y * r.y = M' at *
    have hK : P * M * (P' * M') ≠ 0 := fun h0 => (K.mul_zero _ _ h0).elim (fun h => (K.mul_zero _ _ h).elim n1 n2) (fun h => (K.mul_zero _ _ h).elim m1 m2)
    have key : P * M * (P' * M') * ((v.y * r.y - E.a * v.x * r.x) * (1 - E.d * p.x * z.x * p.y * z.y)) = P * M * (P' * M') * ((p.y * z.y - E.a * p.x * z.x) * (1 - E.d * v.x * r.x * v.y * r.y)) := by
      clear uy w2 n1 n2 m1 m2 hK
      grind
    have k2 := K.cancel hK key
    clear key hK id n1 n2 m1 m2
    rw [← uy] at k2
    refine K.cancel w2 ?_
    clear uy w2
    grind
end Go.Proofs.Ytglbnbdeoenilaa
