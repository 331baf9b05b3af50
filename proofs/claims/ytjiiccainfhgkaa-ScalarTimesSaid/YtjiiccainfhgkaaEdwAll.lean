/- The associative law of the curve: two identities, printed by genedw.py; over whatever modulus (a named one makes grind slow). The curve a*x^2 + y^2 = 1 + d*x^2*y^2, a a square, d none: its points are a group (EDWARDS; BERNSTEIN, LANGE). Plain laws, over whatever field of p elements. So often a point: laws. And points by four numbers (x*z, y*z, z, x*y*z). Plain laws. MONTGOMERY: the number of a point on a curve a*x^2 + y^2 = 1 + d*x^2*y^2 by numbers alone. Plain laws, over whatever field. Primes by what has as high an order as it can: plain laws, no program in sight. Certificates: 2^255 - 19 and the order of the base are primes. Printed by pratt.py. LAGRANGE: so often as there are points, each makes Zero; and how many there are. Plain laws, over whatever field. -/
namespace Go.Proofs.Ytjiiccainfhgkaa
variable {p : Nat} [NeZero p]
theorem assocIdX (x1 y1 x2 y2 x3 y3 d a : Fin p) : ((x1*y2 + y1*x2)*(1 - d*x1*x2*y1*y2)*y3 + (y1*y2 - a*x1*x2)*(1 + d*x1*x2*y1*y2)*x3) * ((1 + d*x2*x3*y2*y3)*(1 - d*x2*x3*y2*y3) + d*(x2*y3 + y2*x3)*(y2*y3 - a*x2*x3)*x1*y1) - ((x2*y3 + y2*x3)*(1 - d*x2*x3*y2*y3)*y1 + (y2*y3 - a*x2*x3)*(1 + d*x2*x3*y2*y3)*x1) * ((1 + d*x1*x2*y1*y2)*(1 - d*x1*x2*y1*y2) + d*(x1*y2 + y1*x2)*(y1*y2 - a*x1*x2)*x3*y3) =
    (y1*x2*y2*y2*y2*y2*x3*x3*y3*d + y1*x2*x2*y2*y2*y2*x3*d - y1*x2*x2*y2*y2*y2*x3*x3*x3*d*a + y1*x2*x2*x2*y2*y2*y3*d - y1*x2*x2*x2*y2*y2*y3*y3*y3*d - y1*x2*x2*x2*y2*y2*y2*y2*x3*x3*y3*d*d + y1*x2*x2*x2*x2*y2*x3*y3*y3*d*a - y1*x2*x2*x2*x2*y2*y2*y2*x3*y3*y3*d*d - x1*x2*y2*y2*y2*y2*x3*y3*y3*d + x1*x2*x2*y2*y2*y2*y3*d - x1*x2*x2*y2*y2*y2*y3*y3*y3*d - x1*x2*x2*x2*y2*y2*x3*d*a + x1*x2*x2*x2*y2*y2*x3*x3*x3*d*a*a + x1*x2*x2*x2*y2*y2*y2*y2*x3*y3*y3*d*d + x1*x2*x2*x2*x2*y2*x3*x3*y3*d*a*a - x1*x2*x2*x2*x2*y2*y2*y2*x3*x3*y3*d*d*a) * (d*x1*x1*y1*y1 - y1*y1 - a*x1*x1 + 1) +
    (0 - y1*y2*x3 + y1*y2*x3*y3*y3 + y1*y2*x3*x3*x3*a - y1*y2*x3*x3*x3*y3*y3*d - y1*x2*y3 + y1*x2*y3*y3*y3 + y1*x2*x3*x3*y3*a - y1*x2*x3*x3*y3*y3*y3*d + y1*x2*y2*y2*x3*x3*y3*d + y1*x2*x2*y2*x3*y3*y3*d + y1*y1*y1*y2*x3 - y1*y1*y1*y2*x3*y3*y3 - y1*y1*y1*y2*x3*x3*x3*a + y1*y1*y1*y2*x3*x3*x3*y3*y3*d + y1*y1*y1*x2*y3 - y1*y1*y1*x2*y3*y3*y3 - y1*y1*y1*x2*x3*x3*y3*a + y1*y1*y1*x2*x3*x3*y3*y3*y3*d - y1*y1*y1*x2*y2*y2*x3*x3*y3*d - y1*y1*y1*x2*x2*y2*x3*y3*y3*d - x1*y2*y3 + x1*y2*y3*y3*y3 + x1*y2*x3*x3*y3*a - x1*y2*x3*x3*y3*y3*y3*d + x1*x2*x3*a - x1*x2*x3*y3*y3*a - x1*x2*x3*x3*x3*a*a + x1*x2*x3*x3*x3*y3*y3*d*a - x1*x2*y2*y2*x3*y3*y3*d + x1*x2*x2*y2*x3*x3*y3*d*a + x1*y1*y1*y2*y3 - x1*y1*y1*y2*y3*y3*y3 - x1*y1*y1*y2*x3*x3*y3*a + x1*y1*y1*y2*x3*x3*y3*y3*y3*d - x1*y1*y1*x2*x3*a + x1*y1*y1*x2*x3*y3*y3*a + x1*y1*y1*x2*x3*x3*x3*a*a - x1*y1*y1*x2*x3*x3*x3*y3*y3*d*a + x1*y1*y1*x2*y2*y2*x3*y3*y3*d - x1*y1*y1*x2*y2*y2*x3*x3*x3*y3*y3*d*d - x1*y1*y1*x2*x2*y2*x3*x3*y3*d*a + x1*y1*y1*x2*x2*y2*x3*x3*y3*y3*y3*d*d + x1*x1*y1*y2*x3*a - x1*x1*y1*y2*x3*y3*y3*a - x1*x1*y1*y2*x3*x3*x3*a*a + x1*x1*y1*y2*x3*x3*x3*y3*y3*d*a + x1*x1*y1*x2*y3*a - x1*x1*y1*x2*y3*y3*y3*a - x1*x1*y1*x2*x3*x3*y3*a*a + x1*x1*y1*x2*x3*x3*y3*y3*y3*d*a - x1*x1*y1*x2*y2*y2*x3*x3*y3*d*a + x1*x1*y1*x2*y2*y2*x3*x3*y3*y3*y3*d*d - x1*x1*y1*x2*x2*y2*x3*y3*y3*d*a + x1*x1*y1*x2*x2*y2*x3*x3*x3*y3*y3*d*d*a + x1*x1*x1*y2*y3*a - x1*x1*x1*y2*y3*y3*y3*a - x1*x1*x1*y2*x3*x3*y3*a*a + x1*x1*x1*y2*x3*x3*y3*y3*y3*d*a - x1*x1*x1*x2*x3*a*a + x1*x1*x1*x2*x3*y3*y3*a*a + x1*x1*x1*x2*x3*x3*x3*a*a*a - x1*x1*x1*x2*x3*x3*x3*y3*y3*d*a*a + x1*x1*x1*x2*y2*y2*x3*y3*y3*d*a - x1*x1*x1*x2*x2*y2*x3*x3*y3*d*a*a) * (d*x2*x2*y2*y2 - y2*y2 - a*x2*x2 + 1) +
    (y1*y2*x3 - y1*y2*y2*y2*x3 + y1*x2*y3 - y1*x2*y2*y2*y3 - y1*x2*x2*y2*x3*a - y1*x2*x2*x2*y3*a - y1*y1*y1*y2*x3 + y1*y1*y1*y2*y2*y2*x3 - y1*y1*y1*x2*y3 + y1*y1*y1*x2*y2*y2*y3 + y1*y1*y1*x2*x2*y2*x3*a + y1*y1*y1*x2*x2*x2*y3*a + x1*y2*y3 - x1*y2*y2*y2*y3 - x1*x2*x3*a + x1*x2*y2*y2*x3*a - x1*x2*x2*y2*y3*a + x1*x2*x2*x2*x3*a*a - x1*y1*y1*y2*y3 + x1*y1*y1*y2*y2*y2*y3 + x1*y1*y1*x2*x3*a - x1*y1*y1*x2*y2*y2*x3*a + x1*y1*y1*x2*y2*y2*x3*d + x1*y1*y1*x2*x2*y2*y3*a - x1*y1*y1*x2*x2*y2*y3*d - x1*y1*y1*x2*x2*x2*x3*a*a - x1*x1*y1*y2*x3*a + x1*x1*y1*y2*y2*y2*x3*a - x1*x1*y1*x2*y3*a + x1*x1*y1*x2*y2*y2*y3*a - x1*x1*y1*x2*y2*y2*y3*d + x1*x1*y1*x2*x2*y2*x3*a*a - x1*x1*y1*x2*x2*y2*x3*d*a + x1*x1*y1*x2*x2*x2*y3*a*a - x1*x1*x1*y2*y3*a + x1*x1*x1*y2*y2*y2*y3*a + x1*x1*x1*x2*x3*a*a - x1*x1*x1*x2*y2*y2*x3*a*a + x1*x1*x1*x2*x2*y2*y3*a*a - x1*x1*x1*x2*x2*x2*x3*a*a*a) * (d*x3*x3*y3*y3 - y3*y3 - a*x3*x3 + 1) := by grind
theorem assocIdY (x1 y1 x2 y2 x3 y3 d a : Fin p) : ((y1*y2 - a*x1*x2)*(1 + d*x1*x2*y1*y2)*y3 - a*(x1*y2 + y1*x2)*(1 - d*x1*x2*y1*y2)*x3) * ((1 + d*x2*x3*y2*y3)*(1 - d*x2*x3*y2*y3) - d*(x2*y3 + y2*x3)*(y2*y3 - a*x2*x3)*x1*y1) - ((y2*y3 - a*x2*x3)*(1 + d*x2*x3*y2*y3)*y1 - a*(x2*y3 + y2*x3)*(1 - d*x2*x3*y2*y3)*x1) * ((1 + d*x1*x2*y1*y2)*(1 - d*x1*x2*y1*y2) - d*(x1*y2 + y1*x2)*(y1*y2 - a*x1*x2)*x3*y3) =
    (0 - y1*x2*y2*y2*y2*y2*x3*y3*y3*d + y1*x2*x2*y2*y2*y2*y3*d - y1*x2*x2*y2*y2*y2*y3*y3*y3*d - y1*x2*x2*x2*y2*y2*x3*d*a + y1*x2*x2*x2*y2*y2*x3*x3*x3*d*a*a + y1*x2*x2*x2*y2*y2*y2*y2*x3*y3*y3*d*d + y1*x2*x2*x2*x2*y2*x3*x3*y3*d*a*a - y1*x2*x2*x2*x2*y2*y2*y2*x3*x3*y3*d*d*a - x1*x2*y2*y2*y2*y2*x3*x3*y3*d*a - x1*x2*x2*y2*y2*y2*x3*d*a + x1*x2*x2*y2*y2*y2*x3*x3*x3*d*a*a - x1*x2*x2*x2*y2*y2*y3*d*a + x1*x2*x2*x2*y2*y2*y3*y3*y3*d*a + x1*x2*x2*x2*y2*y2*y2*y2*x3*x3*y3*d*d*a - x1*x2*x2*x2*x2*y2*x3*y3*y3*d*a*a + x1*x2*x2*x2*x2*y2*y2*y2*x3*y3*y3*d*d*a) * (d*x1*x1*y1*y1 - y1*y1 - a*x1*x1 + 1) +
    (0 - y1*y2*y3 + y1*y2*y3*y3*y3 + y1*y2*x3*x3*y3*a - y1*y2*x3*x3*y3*y3*y3*d + y1*x2*x3*a - y1*x2*x3*y3*y3*a - y1*x2*x3*x3*x3*a*a + y1*x2*x3*x3*x3*y3*y3*d*a - y1*x2*y2*y2*x3*y3*y3*d + y1*x2*x2*y2*x3*x3*y3*d*a + y1*y1*y1*y2*y3 - y1*y1*y1*y2*y3*y3*y3 - y1*y1*y1*y2*x3*x3*y3*a + y1*y1*y1*y2*x3*x3*y3*y3*y3*d - y1*y1*y1*x2*x3*a + y1*y1*y1*x2*x3*y3*y3*a + y1*y1*y1*x2*x3*x3*x3*a*a - y1*y1*y1*x2*x3*x3*x3*y3*y3*d*a + y1*y1*y1*x2*y2*y2*x3*y3*y3*d - y1*y1*y1*x2*x2*y2*x3*x3*y3*d*a + x1*y2*x3*a - x1*y2*x3*y3*y3*a - x1*y2*x3*x3*x3*a*a + x1*y2*x3*x3*x3*y3*y3*d*a + x1*x2*y3*a - x1*x2*y3*y3*y3*a - x1*x2*x3*x3*y3*a*a + x1*x2*x3*x3*y3*y3*y3*d*a - x1*x2*y2*y2*x3*x3*y3*d*a - x1*x2*x2*y2*x3*y3*y3*d*a - x1*y1*y1*y2*x3*a + x1*y1*y1*y2*x3*y3*y3*a + x1*y1*y1*y2*x3*x3*x3*a*a - x1*y1*y1*y2*x3*x3*x3*y3*y3*d*a - x1*y1*y1*x2*y3*a + x1*y1*y1*x2*y3*y3*y3*a + x1*y1*y1*x2*x3*x3*y3*a*a - x1*y1*y1*x2*x3*x3*y3*y3*y3*d*a + x1*y1*y1*x2*y2*y2*x3*x3*y3*d*a - x1*y1*y1*x2*y2*y2*x3*x3*y3*y3*y3*d*d + x1*y1*y1*x2*x2*y2*x3*y3*y3*d*a - x1*y1*y1*x2*x2*y2*x3*x3*x3*y3*y3*d*d*a + x1*x1*y1*y2*y3*a - x1*x1*y1*y2*y3*y3*y3*a - x1*x1*y1*y2*x3*x3*y3*a*a + x1*x1*y1*y2*x3*x3*y3*y3*y3*d*a - x1*x1*y1*x2*x3*a*a + x1*x1*y1*x2*x3*y3*y3*a*a + x1*x1*y1*x2*x3*x3*x3*a*a*a - x1*x1*y1*x2*x3*x3*x3*y3*y3*d*a*a + x1*x1*y1*x2*y2*y2*x3*y3*y3*d*a - x1*x1*y1*x2*y2*y2*x3*x3*x3*y3*y3*d*d*a - x1*x1*y1*x2*x2*y2*x3*x3*y3*d*a*a + x1*x1*y1*x2*x2*y2*x3*x3*y3*y3*y3*d*d*a - x1*x1*x1*y2*x3*a*a + x1*x1*x1*y2*x3*y3*y3*a*a + x1*x1*x1*y2*x3*x3*x3*a*a*a - x1*x1*x1*y2*x3*x3*x3*y3*y3*d*a*a - x1*x1*x1*x2*y3*a*a + x1*x1*x1*x2*y3*y3*y3*a*a + x1*x1*x1*x2*x3*x3*y3*a*a*a - x1*x1*x1*x2*x3*x3*y3*y3*y3*d*a*a + x1*x1*x1*x2*y2*y2*x3*x3*y3*d*a*a + x1*x1*x1*x2*x2*y2*x3*y3*y3*d*a*a) * (d*x2*x2*y2*y2 - y2*y2 - a*x2*x2 + 1) +
    (y1*y2*y3 - y1*y2*y2*y2*y3 - y1*x2*x3*a + y1*x2*y2*y2*x3*a - y1*x2*x2*y2*y3*a + y1*x2*x2*x2*x3*a*a - y1*y1*y1*y2*y3 + y1*y1*y1*y2*y2*y2*y3 + y1*y1*y1*x2*x3*a - y1*y1*y1*x2*y2*y2*x3*a + y1*y1*y1*x2*x2*y2*y3*a - y1*y1*y1*x2*x2*x2*x3*a*a - x1*y2*x3*a + x1*y2*y2*y2*x3*a - x1*x2*y3*a + x1*x2*y2*y2*y3*a + x1*x2*x2*y2*x3*a*a + x1*x2*x2*x2*y3*a*a + x1*y1*y1*y2*x3*a - x1*y1*y1*y2*y2*y2*x3*a + x1*y1*y1*x2*y3*a - x1*y1*y1*x2*y2*y2*y3*a + x1*y1*y1*x2*y2*y2*y3*d - x1*y1*y1*x2*x2*y2*x3*a*a + x1*y1*y1*x2*x2*y2*x3*d*a - x1*y1*y1*x2*x2*x2*y3*a*a - x1*x1*y1*y2*y3*a + x1*x1*y1*y2*y2*y2*y3*a + x1*x1*y1*x2*x3*a*a - x1*x1*y1*x2*y2*y2*x3*a*a + x1*x1*y1*x2*y2*y2*x3*d*a + x1*x1*y1*x2*x2*y2*y3*a*a - x1*x1*y1*x2*x2*y2*y3*d*a - x1*x1*y1*x2*x2*x2*x3*a*a*a + x1*x1*x1*y2*x3*a*a - x1*x1*x1*y2*y2*y2*x3*a*a + x1*x1*x1*x2*y3*a*a - x1*x1*x1*x2*y2*y2*y3*a*a - x1*x1*x1*x2*x2*y2*x3*a*a*a - x1*x1*x1*x2*x2*x2*y3*a*a*a) * (d*x3*x3*y3*y3 - y3*y3 - a*x3*x3 + 1) := by grind
theorem closedId (x1 y1 x2 y2 d a : Fin p) (h1 : d*x1*x1*y1*y1 - y1*y1 - a*x1*x1 + 1 = 0) (h2 : d*x2*x2*y2*y2 - y2*y2 - a*x2*x2 + 1 = 0) : a*(x1*y2 + y1*x2)*(x1*y2 + y1*x2)*(1 - d*x1*x2*y1*y2)*(1 - d*x1*x2*y1*y2) + (y1*y2 - a*x1*x2)*(y1*y2 - a*x1*x2)*(1 + d*x1*x2*y1*y2)*(1 + d*x1*x2*y1*y2) = (1 + d*x1*x2*y1*y2)*(1 + d*x1*x2*y1*y2)*(1 - d*x1*x2*y1*y2)*(1 - d*x1*x2*y1*y2) + d*(x1*y2 + y1*x2)*(x1*y2 + y1*x2)*(y1*y2 - a*x1*x2)*(y1*y2 - a*x1*x2) := by grind
end Go.Proofs.Ytjiiccainfhgkaa
namespace Go.Proofs.Ytjiiccainfhgkaa
set_option linter.unusedVariables false
/-- The numbers modulo p are a field. -/
structure Fl (n : Nat) [NeZero n] where
  inv : Fin n → Fin n
  mul_inv : ∀ a : Fin n, a ≠ 0 → a * inv a = 1
  mul_zero : ∀ a b : Fin n, a * b = 0 → a = 0 ∨ b = 0
  one_ne : (1 : Fin n) ≠ 0
  two_ne : (2 : Fin n) ≠ 0
variable {n : Nat} [NeZero n] {K : Fl n}
theorem sub_zero_eq {a b : Fin n} (h : a - b = 0) : a = b := by grind
theorem mul_sub_zero {a b c : Fin n} (h : a * b = a * c) : a * (b - c) = 0 := by grind
theorem Fl.cancel (K : Fl n) {a b c : Fin n} (ha : a ≠ 0) (h : a * b = a * c) : b = c := by
  rcases K.mul_zero _ _ (mul_sub_zero h) with h1 | h1
  · exact absurd h1 ha
  · exact sub_zero_eq h1
structure Ed (K : Fl n) where
  a : Fin n
  d : Fin n
  s : Fin n
  hs : s * s = a
  s0 : s ≠ 0
  nd : ∀ w : Fin n, w * w ≠ d
structure P2 (n : Nat) where
  x : Fin n
  y : Fin n
set_option linter.unusedSectionVars false
theorem P2.ext' {p q : P2 n} (h : p.x = q.x) (k : p.y = q.y) : p = q := by cases p; cases q; cases h; cases k; rfl
def Ed.on (E : Ed K) (p : P2 n) : Prop := E.a * p.x * p.x + p.y * p.y = 1 + E.d * p.x * p.x * p.y * p.y
def Ed.dl (E : Ed K) (p q : P2 n) : Fin n := E.d * p.x * q.x * p.y * q.y
def Ed.add (E : Ed K) (p q : P2 n) : P2 n := ⟨(p.x * q.y + p.y * q.x) * K.inv (1 + E.dl p q), (p.y * q.y - E.a * p.x * q.x) * K.inv (1 - E.dl p q)⟩
def P2.zero : P2 n := ⟨0, 1⟩
def P2.neg (p : P2 n) : P2 n := ⟨0 - p.x, p.y⟩
theorem on_poly {a d x y : Fin n} (h : a * x * x + y * y = 1 + d * x * x * y * y) : d * x * x * y * y - y * y - a * x * x + 1 = 0 := by grind
theorem two_zero {s x y : Fin n} (h1 : s * x + 1 * y = 0) (h2 : s * x + (0 - 1) * y = 0) : 2 * (s * x) = 0 := by grind
theorem neg_one_sq : (0 - 1 : Fin n) * (0 - 1) = 1 := by grind
theorem one_sq : (1 : Fin n) * 1 = 1 := by grind
theorem Ed.d0 (E : Ed K) : E.d ≠ 0 := fun h => E.nd 0 (by rw [h]; grind)
/-- What is to be divided by is never 0. -/
theorem Ed.complete (E : Ed K) {p q : P2 n} (hp : E.on p) (hq : E.on q) (h : E.dl p q * E.dl p q = 1) : False := by
  obtain ⟨x1, y1⟩ := p
  obtain ⟨x2, y2⟩ := q
  obtain ⟨a, d, s, hs, s0, nd⟩ := E
  simp only [Ed.on, Ed.dl] at *
  have hd0 : d ≠ 0 := fun h0 => nd 0 (by rw [h0]; grind)
  have hx1 : x1 ≠ 0 := fun h0 => by
    rw [h0] at h
    exact K.one_ne (by grind)
  have hy1 : y1 ≠ 0 := fun h0 => by
    rw [h0] at h
    exact K.one_ne (by grind)
  have hx2 : x2 ≠ 0 := fun h0 => by
    rw [h0] at h
    exact K.one_ne (by grind)
  -- (s x1 + D y1)^2 = d x1^2 y1^2 (s x2 + y2)^2, and with the other sign
  have e0 : a * x1 * x1 + y1 * y1 = d * x1 * x1 * y1 * y1 * (a * x2 * x2 + y2 * y2) := by
    rw [hq, hp]
    have : d * x1 * x1 * y1 * y1 * (1 + d * x2 * x2 * y2 * y2) = d * x1 * x1 * y1 * y1 + d * x1 * x2 * y1 * y2 * (d * x1 * x2 * y1 * y2) := by grind
    rw [this, h]
    grind
  have key : ∀ t : Fin n, t * t = 1 → (s * x1 + t * (d * x1 * x2 * y1 * y2) * y1) * (s * x1 + t * (d * x1 * x2 * y1 * y2) * y1) = d * (x1 * y1) * (x1 * y1) * ((s * x2 + t * y2) * (s * x2 + t * y2)) := by
    intro t ht
    have : (s * x1 + t * (d * x1 * x2 * y1 * y2) * y1) * (s * x1 + t * (d * x1 * x2 * y1 * y2) * y1) = s * s * x1 * x1 + t * t * (d * x1 * x2 * y1 * y2 * (d * x1 * x2 * y1 * y2)) * (y1 * y1) + 2 * s * t * x1 * y1 * (d * x1 * x2 * y1 * y2) := by grind
    rw [this, h, hs, ht]
    have e1 : a * x1 * x1 + 1 * 1 * (y1 * y1) = d * x1 * x1 * y1 * y1 * (a * x2 * x2 + y2 * y2) := by rw [← e0]; grind
    rw [e1, ← hs]
    have e2 : d * (x1 * y1) * (x1 * y1) * ((s * x2 + t * y2) * (s * x2 + t * y2)) = d * (x1 * y1) * (x1 * y1) * (s * s * x2 * x2 + t * t * (y2 * y2) + 2 * s * t * x2 * y2) := by grind
    rw [e2, ht]
    grind
  have fin : ∀ t : Fin n, t * t = 1 → s * x2 + t * y2 ≠ 0 → False := fun t ht hne => by
    have hz : x1 * y1 * (s * x2 + t * y2) ≠ 0 := fun h0 => by
      rcases K.mul_zero _ _ h0 with h1 | h1
      · rcases K.mul_zero _ _ h1 with h2 | h2
        · exact hx1 h2
        · exact hy1 h2
      · exact hne h1
    have hi := K.mul_inv _ hz
    refine nd ((s * x1 + t * (d * x1 * x2 * y1 * y2) * y1) * K.inv (x1 * y1 * (s * x2 + t * y2))) ?_
    have k := key t ht
    generalize K.inv (x1 * y1 * (s * x2 + t * y2)) = i at *
    generalize s * x1 + t * (d * x1 * x2 * y1 * y2) * y1 = u at *
    generalize s * x2 + t * y2 = v at *
    have : u * i * (u * i) = u * u * (i * i) := by grind
    rw [this, k]
    have : d * (x1 * y1) * (x1 * y1) * (v * v) * (i * i) = d * ((x1 * y1 * v * i) * (x1 * y1 * v * i)) := by grind
    rw [this, hi]
    grind
  by_cases h1 : s * x2 + 1 * y2 = 0
  · by_cases h2 : s * x2 + (0 - 1) * y2 = 0
    · have := two_zero h1 h2
      rcases K.mul_zero _ _ this with h3 | h3
      · exact K.two_ne h3
      · rcases K.mul_zero _ _ h3 with h4 | h4
        · exact s0 h4
        · exact hx2 h4
    · exact fin (0 - 1) neg_one_sq h2
  · exact fin 1 one_sq h1
theorem Ed.plus_ne (E : Ed K) {p q : P2 n} (hp : E.on p) (hq : E.on q) : 1 + E.dl p q ≠ 0 := fun h => E.complete hp hq (by grind)
theorem Ed.minus_ne (E : Ed K) {p q : P2 n} (hp : E.on p) (hq : E.on q) : 1 - E.dl p q ≠ 0 := fun h => E.complete hp hq (by grind)
/-- The sum is what makes both equations. -/
theorem Ed.add_spec (E : Ed K) {p q : P2 n} (hp : E.on p) (hq : E.on q) : (E.add p q).x * (1 + E.dl p q) = p.x * q.y + p.y * q.x ∧ (E.add p q).y * (1 - E.dl p q) = p.y * q.y - E.a * p.x * q.x := by
  have h1 := K.mul_inv _ (E.plus_ne hp hq)
  have h2 := K.mul_inv _ (E.minus_ne hp hq)
  unfold Ed.add
  dsimp only
  generalize K.inv (1 + E.dl p q) = u at *
  generalize K.inv (1 - E.dl p q) = v at *
  generalize E.dl p q = t at *
  constructor
  · have : (p.x * q.y + p.y * q.x) * u * (1 + t) = (p.x * q.y + p.y * q.x) * ((1 + t) * u) := by grind
    rw [this, h1]; grind
  · have : (p.y * q.y - E.a * p.x * q.x) * v * (1 - t) = (p.y * q.y - E.a * p.x * q.x) * ((1 - t) * v) := by grind
    rw [this, h2]; grind
theorem Ed.add_of (E : Ed K) {p q r : P2 n} (hp : E.on p) (hq : E.on q) (hx : r.x * (1 + E.dl p q) = p.x * q.y + p.y * q.x) (hy : r.y * (1 - E.dl p q) = p.y * q.y - E.a * p.x * q.x) : E.add p q = r := by
  obtain ⟨kx, ky⟩ := E.add_spec hp hq
  apply P2.ext'
  · exact K.cancel (E.plus_ne hp hq) (by rw [← hx] at kx; grind)
  · exact K.cancel (E.minus_ne hp hq) (by rw [← hy] at ky; grind)
theorem Ed.zero_on (E : Ed K) : E.on P2.zero := by unfold Ed.on P2.zero; dsimp only; grind
theorem Ed.neg_on (E : Ed K) {p : P2 n} (h : E.on p) : E.on p.neg := by unfold Ed.on P2.neg at *; dsimp only at *; grind
theorem Ed.add_comm (E : Ed K) (p q : P2 n) : E.add p q = E.add q p := by
  have h : E.dl p q = E.dl q p := by unfold Ed.dl; grind
  unfold Ed.add
  rw [h]
  apply P2.ext'
  · dsimp only; grind
  · dsimp only; grind
theorem Ed.add_zero (E : Ed K) {p : P2 n} (h : E.on p) : E.add p P2.zero = p := by
  refine E.add_of h E.zero_on ?_ ?_
  · unfold Ed.dl P2.zero; dsimp only; grind
  · unfold Ed.dl P2.zero; dsimp only; grind
theorem Ed.add_neg (E : Ed K) {p : P2 n} (h : E.on p) : E.add p p.neg = P2.zero := by
  refine E.add_of h (E.neg_on h) ?_ ?_
  · unfold Ed.dl P2.neg P2.zero; dsimp only; grind
  · unfold Ed.on at h; unfold Ed.dl P2.neg P2.zero; dsimp only; grind
theorem Ed.add_on (E : Ed K) {p q : P2 n} (hp : E.on p) (hq : E.on q) : E.on (E.add p q) := by
  obtain ⟨kx, ky⟩ := E.add_spec hp hq
  have n1 := E.plus_ne hp hq
  have n2 := E.minus_ne hp hq
  generalize E.add p q = r at *
  obtain ⟨x1, y1⟩ := p
  obtain ⟨x2, y2⟩ := q
  obtain ⟨x, y⟩ := r
  unfold Ed.on Ed.dl at *
  dsimp only at *
  have hD : (1 + E.d * x1 * x2 * y1 * y2) * (1 - E.d * x1 * x2 * y1 * y2) ≠ 0 := fun h0 => (K.mul_zero _ _ h0).elim n1 n2
  have e1 : E.d * x1 * x1 * y1 * y1 - y1 * y1 - E.a * x1 * x1 + 1 = 0 := on_poly hp
  have e2 : E.d * x2 * x2 * y2 * y2 - y2 * y2 - E.a * x2 * x2 + 1 = 0 := on_poly hq
  have id := closedId x1 y1 x2 y2 E.d E.a e1 e2
  rw [← kx, ← ky] at id
  generalize 1 + E.d * x1 * x2 * y1 * y2 = m at *
  generalize 1 - E.d * x1 * x2 * y1 * y2 = n at *
  refine K.cancel hD (K.cancel hD ?_)
  clear n1 n2 hD kx ky hp hq e1 e2
  grind
theorem Ed.add_assoc (E : Ed K) {p q r : P2 n} (hp : E.on p) (hq : E.on q) (hr : E.on r) : E.add (E.add p q) r = E.add p (E.add q r) := by
  have h12 := E.add_on hp hq
  have h23 := E.add_on hq hr
  obtain ⟨kx, ky⟩ := E.add_spec hp hq
  obtain ⟨lx, ly⟩ := E.add_spec hq hr
  have n1 := E.plus_ne hp hq
  have n2 := E.minus_ne hp hq
  have m1 := E.plus_ne hq hr
  have m2 := E.minus_ne hq hr
  have w1 := E.plus_ne hp h23
  have w2 := E.minus_ne hp h23
  obtain ⟨ux, uy⟩ := E.add_spec hp h23
  generalize E.add p (E.add q r) = t at *
  generalize E.add p q = v at *
  generalize E.add q r = z at *
  refine E.add_of h12 hr ?_ ?_
  · have id := assocIdX p.x p.y q.x q.y r.x r.y E.d E.a
    have e1 : E.d * p.x * p.x * p.y * p.y - p.y * p.y - E.a * p.x * p.x + 1 = 0 := on_poly hp
    have e2 : E.d * q.x * q.x * q.y * q.y - q.y * q.y - E.a * q.x * q.x + 1 = 0 := on_poly hq
    have e3 : E.d * r.x * r.x * r.y * r.y - r.y * r.y - E.a * r.x * r.x + 1 = 0 := on_poly hr
    rw [e1, e2, e3] at id
    clear e1 e2 e3 hp hq hr h12 h23
    unfold Ed.dl at *
    rw [← kx, ← ky, ← lx, ← ly] at id
    clear kx ky lx ly uy w2
    generalize 1 + E.d * p.x * q.x * p.y * q.y = P at *
    generalize 1 - E.d * p.x * q.x * p.y * q.y = M at *
    generalize 1 + E.d * q.x * r.x * q.y * r.y = P' at *
    generalize 1 - E.d * q.x * r.x * q.y * r.y = M' at *
    have hK : P * M * (P' * M') ≠ 0 := fun h0 => (K.mul_zero _ _ h0).elim (fun h => (K.mul_zero _ _ h).elim n1 n2) (fun h => (K.mul_zero _ _ h).elim m1 m2)
    have key : P * M * (P' * M') * ((v.x * r.y + v.y * r.x) * (1 + E.d * p.x * z.x * p.y * z.y)) = P * M * (P' * M') * ((p.x * z.y + p.y * z.x) * (1 + E.d * v.x * r.x * v.y * r.y)) := by
      clear ux w1 n1 n2 m1 m2 hK
      grind
    have k2 := K.cancel hK key
    clear key hK id n1 n2 m1 m2
    rw [← ux] at k2
    refine K.cancel w1 ?_
    clear ux w1
    grind
  · have id := assocIdY p.x p.y q.x q.y r.x r.y E.d E.a
    have e1 : E.d * p.x * p.x * p.y * p.y - p.y * p.y - E.a * p.x * p.x + 1 = 0 := on_poly hp
    have e2 : E.d * q.x * q.x * q.y * q.y - q.y * q.y - E.a * q.x * q.x + 1 = 0 := on_poly hq
    have e3 : E.d * r.x * r.x * r.y * r.y - r.y * r.y - E.a * r.x * r.x + 1 = 0 := on_poly hr
    rw [e1, e2, e3] at id
    clear e1 e2 e3 hp hq hr h12 h23
    unfold Ed.dl at *
    rw [← kx, ← ky, ← lx, ← ly] at id
    clear kx ky lx ly ux w1
    generalize 1 + E.d * p.x * q.x * p.y * q.y = P at *
    generalize 1 - E.d * p.x * q.x * p.y * q.y = M at *
    generalize 1 + E.d * q.x * r.x * q.y * r.y = P' at *
    generalize 1 - E.d * q.x * r.x * q.y * r.y = M' at *
    have hK : P * M * (P' * M') ≠ 0 := fun h0 => (K.mul_zero _ _ h0).elim (fun h => (K.mul_zero _ _ h).elim n1 n2) (fun h => (K.mul_zero _ _ h).elim m1 m2)
    have key : P * M * (P' * M') * ((v.y * r.y - E.a * v.x * r.x) * (1 - E.d * p.x * z.x * p.y * z.y)) = P * M * (P' * M') * ((p.y * z.y - E.a * p.x * z.x) * (1 - E.d * v.x * r.x * v.y * r.y)) := by
      clear uy w2 n1 n2 m1 m2 hK
      grind
    have k2 := K.cancel hK key
    clear key hK id n1 n2 m1 m2
    rw [← uy] at k2
    refine K.cancel w2 ?_
    clear uy w2
    grind
end Go.Proofs.Ytjiiccainfhgkaa
namespace Go.Proofs.Ytjiiccainfhgkaa
set_option linter.unusedVariables false
set_option linter.unusedSectionVars false
variable {n : Nat} [NeZero n] {K : Fl n}
def Ed.smul (E : Ed K) : Nat → P2 n → P2 n
  | 0, _ => P2.zero
  | k + 1, p => E.add (E.smul k p) p
section
variable (E : Ed K) {p q r : P2 n}
theorem Ed.smul_on (hp : E.on p) : ∀ k, E.on (E.smul k p)
  | 0 => E.zero_on
  | k + 1 => E.add_on (Ed.smul_on hp k) hp
theorem Ed.zero_add (hp : E.on p) : E.add P2.zero p = p := by rw [E.add_comm, E.add_zero hp]
theorem Ed.smul_one (hp : E.on p) : E.smul 1 p = p := E.zero_add hp
theorem Ed.smul_add (hp : E.on p) (j : Nat) : ∀ k, E.smul (j + k) p = E.add (E.smul j p) (E.smul k p)
  | 0 => by rw [Nat.add_zero, Ed.smul, E.add_zero (E.smul_on hp j)]
  | k + 1 => by
    rw [← Nat.add_assoc, Ed.smul, Ed.smul, Ed.smul_add hp j k, E.add_assoc (E.smul_on hp j) (E.smul_on hp k) hp]
theorem Ed.smul_zero_pt : ∀ k, E.smul k P2.zero = P2.zero
  | 0 => rfl
  | k + 1 => by rw [Ed.smul, Ed.smul_zero_pt k, E.add_zero E.zero_on]
theorem Ed.smul_smul (hp : E.on p) (j : Nat) : ∀ k, E.smul k (E.smul j p) = E.smul (k * j) p
  | 0 => by rw [Nat.zero_mul]; rfl
  | k + 1 => by rw [Ed.smul, Ed.smul_smul hp j k, Nat.succ_mul, E.smul_add hp]
theorem Ed.add_four (hp : E.on p) (hq : E.on q) (hr : E.on r) {t : P2 n} (ht : E.on t) : E.add (E.add p q) (E.add r t) = E.add (E.add p r) (E.add q t) := by
  rw [E.add_assoc hp hq (E.add_on hr ht), ← E.add_assoc hq hr ht, E.add_comm q r, E.add_assoc hr hq ht, ← E.add_assoc hp hr (E.add_on hq ht)]
theorem Ed.smul_dist (hp : E.on p) (hq : E.on q) : ∀ k, E.smul k (E.add p q) = E.add (E.smul k p) (E.smul k q)
  | 0 => (E.add_zero E.zero_on).symm
  | k + 1 => by rw [Ed.smul, Ed.smul_dist hp hq k, E.add_four (E.smul_on hp k) (E.smul_on hq k) hp hq]; rfl
theorem Ed.smul_double (hp : E.on p) (k : Nat) : E.smul (2 * k) p = E.add (E.smul k p) (E.smul k p) := by rw [Nat.two_mul, E.smul_add hp]
theorem Ed.cancel_right (hp : E.on p) (hq : E.on q) (hr : E.on r) (h : E.add p r = E.add q r) : p = q := by
  have k := congrArg (fun x => E.add x r.neg) h
  rwa [E.add_assoc hp hr (E.neg_on hr), E.add_assoc hq hr (E.neg_on hr), E.add_neg hr, E.add_zero hp, E.add_zero hq] at k
end
/-- Four numbers for a point. -/
structure Rep (x y z t : Fin n) (p : P2 n) : Prop where
  z0 : z ≠ 0
  x : x = p.x * z
  y : y = p.y * z
  t : t = p.x * p.y * z
theorem rep_plus_id (d x1 y1 z1 x2 y2 z2 : Fin n) :
    (y1*z1 + x1*z1)*(y2*z2 + x2*z2) - (y1*z1 - x1*z1)*(y2*z2 - x2*z2) = 2*(z1*z2)*(x1*y2 + y1*x2) ∧
    (z1*z2 + z1*z2) - ((x1*y1*z1)*(x2*y2*z2)*d + (x1*y1*z1)*(x2*y2*z2)*d) = 2*(z1*z2)*(1 - d*x1*x2*y1*y2) ∧
    (z1*z2 + z1*z2) + ((x1*y1*z1)*(x2*y2*z2)*d + (x1*y1*z1)*(x2*y2*z2)*d) = 2*(z1*z2)*(1 + d*x1*x2*y1*y2) ∧
    (y1*z1 + x1*z1)*(y2*z2 + x2*z2) + (y1*z1 - x1*z1)*(y2*z2 - x2*z2) = 2*(z1*z2)*(y1*y2 + x1*x2) := by
  refine ⟨?_, ?_, ?_, ?_⟩ <;> grind
theorem Rep.plus (E : Ed K) (ha : E.a = 0 - 1) {x1 y1 z1 t1 x2 y2 z2 t2 : Fin n} {p q : P2 n} (hp : Rep x1 y1 z1 t1 p) (hq : Rep x2 y2 z2 t2 q) (op : E.on p) (oq : E.on q) {e f g h : Fin n}
    (he : e = (y1 + x1)*(y2 + x2) - (y1 - x1)*(y2 - x2)) (hf : f = (z1*z2 + z1*z2) - (t1*t2*E.d + t1*t2*E.d)) (hg : g = (z1*z2 + z1*z2) + (t1*t2*E.d + t1*t2*E.d)) (hh : h = (y1 + x1)*(y2 + x2) + (y1 - x1)*(y2 - x2)) :
    Rep (e * f) (g * h) (f * g) (e * h) (E.add p q) := by
  obtain ⟨i1, i2, i3, i4⟩ := rep_plus_id E.d p.x p.y z1 q.x q.y z2
  rw [hp.x, hp.y, hq.x, hq.y] at he hh
  rw [hp.t, hq.t] at hf hg
  rw [i1] at he
  rw [i2] at hf
  rw [i3] at hg
  rw [i4] at hh
  have hz1 := hp.z0
  have hz2 := hq.z0
  obtain ⟨sx, sy⟩ := E.add_spec op oq
  have n1 := E.plus_ne op oq
  have n2 := E.minus_ne op oq
  generalize E.add p q = r at *
  unfold Ed.dl at *
  have hc : 2 * (z1 * z2) ≠ 0 := fun h0 => (K.mul_zero _ _ h0).elim K.two_ne (fun h => (K.mul_zero _ _ h).elim hz1 hz2)
  clear i1 i2 i3 i4 hp hq hz1 hz2
  have sy' : r.y * (1 - E.d * p.x * q.x * p.y * q.y) = p.y * q.y + p.x * q.x := by rw [sy, ha]; clear sy sx he hf hg hh n1 n2 hc; grind
  rw [← sx] at he
  rw [← sy'] at hh
  generalize 1 + E.d * p.x * q.x * p.y * q.y = P at *
  generalize 1 - E.d * p.x * q.x * p.y * q.y = M at *
  generalize 2 * (z1 * z2) = c at *
  clear sx sy sy' op oq
  subst he hf hg hh
  refine ⟨fun h0 => (K.mul_zero _ _ h0).elim (fun h => (K.mul_zero _ _ h).elim hc n2) (fun h => (K.mul_zero _ _ h).elim hc n1), ?_, ?_, ?_⟩
  · clear hc n1 n2; grind
  · clear hc n1 n2; grind
  · clear hc n1 n2; grind
end Go.Proofs.Ytjiiccainfhgkaa
namespace Go.Proofs.Ytjiiccainfhgkaa
set_option linter.unusedVariables false
set_option linter.unusedSectionVars false
variable {n : Nat} [NeZero n] {K : Fl n}
/-- (X : Z) is as (1 + y : s*(1 - y)). -/
structure Kp (s X Z : Fin n) (p : P2 n) : Prop where
  eq : s * X * (1 - p.y) = Z * (1 + p.y)
  ne : ¬ (X = 0 ∧ Z = 0)
structure Mo (E : Ed K) (s c : Fin n) : Prop where
  ss : s * s = 1
  hc : (s = 1 ∧ c * (E.a - E.d) = E.d) ∨ (s = 0 - 1 ∧ c * (E.a - E.d) = 0 - E.a)
theorem kp_scale_id {s X Z y i : Fin n} (hs : s * s = 1) (h : s * X * (1 - y) = Z * (1 + y)) (hi : 2 * i = 1) : X = (s * Z + X) * i * (1 + y) ∧ Z = s * ((s * Z + X) * i) * (1 - y) := by
  have h1 : X * (1 - y) = s * Z * (1 + y) := by
    have : s * (s * X * (1 - y)) = s * (Z * (1 + y)) := by rw [h]
    have e : s * (s * X * (1 - y)) = s * s * (X * (1 - y)) := by clear h this hi hs; grind
    rw [e, hs] at this
    clear hs h hi e
    grind
  constructor
  · have : (s * Z + X) * i * (1 + y) = i * (s * Z * (1 + y)) + i * X * (1 + y) := by clear h h1 hi hs; grind
    rw [this, ← h1]
    have : i * (X * (1 - y)) + i * X * (1 + y) = 2 * i * X := by clear h h1 hi hs this; grind
    rw [this, hi]
    clear h h1 hi hs this
    grind
  · have : s * ((s * Z + X) * i) * (1 - y) = i * (s * s) * Z * (1 - y) + i * (s * X * (1 - y)) := by clear h h1 hi hs; grind
    rw [this, h, hs]
    have : i * 1 * Z * (1 - y) + i * (Z * (1 + y)) = 2 * i * Z := by clear h h1 hi hs this; grind
    rw [this, hi]
    clear h h1 hi hs this
    grind
theorem Kp.scale (K : Fl n) {s X Z : Fin n} {p : P2 n} (hs : s * s = 1) (h : Kp s X Z p) : ∃ l : Fin n, l ≠ 0 ∧ X = l * (1 + p.y) ∧ Z = s * l * (1 - p.y) := by
  have hi := K.mul_inv _ K.two_ne
  obtain ⟨h1, h2⟩ := kp_scale_id hs h.eq hi
  refine ⟨(s * Z + X) * K.inv 2, fun h0 => h.ne ?_, h1, h2⟩
  rw [h0] at h1 h2
  exact ⟨by rw [h1]; grind, by rw [h2]; grind⟩
theorem Ed.a_ne (E : Ed K) : E.a ≠ 0 := fun h => by
  rw [← E.hs] at h
  exact (K.mul_zero _ _ h).elim E.s0 E.s0
theorem Ed.ad_ne (E : Ed K) : E.a - E.d ≠ 0 := fun h => E.nd E.s (by rw [E.hs]; exact sub_zero_eq h)
theorem two4 (K : Fl n) {x : Fin n} (h : 16 * x = 0) : x = 0 := by
  have h2 : 2 * (2 * (2 * (2 * x))) = 0 := by grind
  have k : ∀ z : Fin n, 2 * z = 0 → z = 0 := fun z hz => (K.mul_zero _ _ hz).resolve_left K.two_ne
  exact k _ (k _ (k _ (k _ h2)))
/-! ### Twice -/
theorem tw_t1 {a d c x y : Fin n} (ho : a * x * x + y * y = 1 + d * x * x * y * y) (hc : c * (a - d) = d) : (a - d) * ((1 + c * (1 - y * y)) * (1 - a * x * x) - y * y) = 0 := by
  have : (a - d) * ((1 + c * (1 - y * y)) * (1 - a * x * x) - y * y) = ((a - d) + c * (a - d) * (1 - y * y)) * (1 - a * x * x) - (a - d) * (y * y) := by clear ho hc; grind
  rw [this, hc]
  clear this hc
  grind
theorem tw_t2 {a d c x y : Fin n} (ho : a * x * x + y * y = 1 + d * x * x * y * y) (hc : c * (a - d) = 0 - a) : (a - d) * ((y * y - c * (1 - y * y)) * (1 - a * x * x) - y * y) = 0 := by
  have : (a - d) * ((y * y - c * (1 - y * y)) * (1 - a * x * x) - y * y) = ((a - d) * (y * y) - c * (a - d) * (1 - y * y)) * (1 - a * x * x) - (a - d) * (y * y) := by clear ho hc; grind
  rw [this, hc]
  clear this hc
  grind
theorem tw_e1 {l y A c : Fin n} (ht : (1 + c * (1 - y * y)) * (1 - A) = y * y) :
    16 * (l * l * l * l) * (y * y) * (2 - 2 * (y * y)) = 16 * (l * l * l * l) * ((1 - y * y) * (1 + c * (1 - y * y))) * (2 - 2 * A) := by grind
theorem tw_e2 {l y A c : Fin n} (ht : (y * y - c * (1 - y * y)) * (1 - A) = y * y) :
    16 * (l * l * l * l) * (y * y) * (2 - 2 * (y * y)) = 16 * (l * l * l * l) * ((1 - y * y) * (y * y - c * (1 - y * y))) * (2 - 2 * A) := by grind
theorem tw_s1 {l y : Fin n} : (l * (1 + y) + 1 * l * (1 - y)) * (l * (1 + y) + 1 * l * (1 - y)) = 4 * (l * l) ∧ (l * (1 + y) - 1 * l * (1 - y)) * (l * (1 + y) - 1 * l * (1 - y)) = 4 * (l * l) * (y * y) := by constructor <;> grind
theorem tw_s2 {l y : Fin n} : (l * (1 + y) + (0 - 1) * l * (1 - y)) * (l * (1 + y) + (0 - 1) * l * (1 - y)) = 4 * (l * l) * (y * y) ∧ (l * (1 + y) - (0 - 1) * l * (1 - y)) * (l * (1 + y) - (0 - 1) * l * (1 - y)) = 4 * (l * l) := by constructor <;> grind
theorem tw_p1 {l y c : Fin n} : 4 * (l * l) * (4 * (l * l) * (y * y)) = 16 * (l * l * l * l) * (y * y) ∧ (4 * (l * l) - 4 * (l * l) * (y * y)) * (4 * (l * l) + c * (4 * (l * l) - 4 * (l * l) * (y * y))) = 16 * (l * l * l * l) * ((1 - y * y) * (1 + c * (1 - y * y))) := by constructor <;> grind
theorem tw_p2 {l y c : Fin n} : 4 * (l * l) * (y * y) * (4 * (l * l)) = 16 * (l * l * l * l) * (y * y) ∧ (4 * (l * l) * (y * y) - 4 * (l * l)) * (4 * (l * l) * (y * y) + c * (4 * (l * l) * (y * y) - 4 * (l * l))) = 0 - 16 * (l * l * l * l) * ((1 - y * y) * (y * y - c * (1 - y * y))) := by constructor <;> grind
theorem dn_id {a d x y r : Fin n} (ho : a * x * x + y * y = 1 + d * x * x * y * y) (hr : r * (1 - d * x * x * y * y) = y * y - a * x * x) : (1 - d * x * x * y * y) * (1 - r) = 2 - 2 * (y * y) ∧ (1 - d * x * x * y * y) * (1 + r) = 2 - 2 * (a * x * x) := by
  constructor <;> grind
theorem cross1 {D P Q r u v : Fin n} (h1 : D * (1 - r) = u) (h2 : D * (1 + r) = v) (h : P * u = Q * v) : D * (1 * P * (1 - r)) = D * (Q * (1 + r)) := by
  have e1 : D * (1 * P * (1 - r)) = P * (D * (1 - r)) := by clear h1 h2 h; grind
  have e2 : D * (Q * (1 + r)) = Q * (D * (1 + r)) := by clear h1 h2 h e1; grind
  rw [e1, e2, h1, h2, h]
theorem cross2 {D P Q r u v : Fin n} (h1 : D * (1 - r) = u) (h2 : D * (1 + r) = v) (h : P * u = Q * v) : D * ((0 - 1) * P * (1 - r)) = D * ((0 - Q) * (1 + r)) := by
  have e1 : D * ((0 - 1) * P * (1 - r)) = 0 - P * (D * (1 - r)) := by clear h1 h2 h; grind
  have e2 : D * ((0 - Q) * (1 + r)) = 0 - Q * (D * (1 + r)) := by clear h1 h2 h e1; grind
  rw [e1, e2, h1, h2, h]
theorem Fl.ne_mul (K : Fl n) {x y : Fin n} (hx : x ≠ 0) (hy : y ≠ 0) : x * y ≠ 0 := fun h => (K.mul_zero _ _ h).elim hx hy
theorem Kp.twice {E : Ed K} {s c X Z : Fin n} {p : P2 n} (M : Mo E s c) (h : Kp s X Z p) (hp : E.on p) :
    Kp s ((X + Z) * (X + Z) * ((X - Z) * (X - Z))) (((X + Z) * (X + Z) - (X - Z) * (X - Z)) * ((X + Z) * (X + Z) + c * ((X + Z) * (X + Z) - (X - Z) * (X - Z)))) (E.add p p) := by
  obtain ⟨l, l0, hX, hZ⟩ := h.scale K M.ss
  obtain ⟨-, sy⟩ := E.add_spec hp hp
  have n2 := E.minus_ne hp hp
  have had := E.ad_ne
  have ha := E.a_ne
  have l4 : l * l * l * l ≠ 0 := K.ne_mul (K.ne_mul (K.ne_mul l0 l0) l0) l0
  obtain ⟨dn1, dn2⟩ := dn_id hp sy
  have hon : E.a * p.x * p.x + p.y * p.y = 1 + E.d * p.x * p.x * p.y * p.y := hp
  generalize E.add p p = r at *
  unfold Ed.dl at *
  obtain ⟨ss, ⟨hs, hc⟩ | ⟨hs, hc⟩⟩ := M
  · subst hs
    rw [hX, hZ, tw_s1.1, tw_s1.2]
    · rw [(tw_p1 (c := c)).1, tw_p1.2]
      have ht : (1 + c * (1 - p.y * p.y)) * (1 - E.a * p.x * p.x) = p.y * p.y := by
        rcases K.mul_zero _ _ (tw_t1 hon hc) with h1 | h1
        · exact absurd h1 had
        · exact sub_zero_eq h1
      refine ⟨K.cancel n2 (cross1 dn1 dn2 (tw_e1 ht)), fun ⟨z1, z2⟩ => ?_⟩
      have hy : p.y * p.y = 0 := by
        have : 16 * (l * l * l * l * (p.y * p.y)) = 0 := by rw [← z1]; grind
        exact (K.mul_zero _ _ (two4 K this)).resolve_left l4
      rw [hy] at z2
      have : 16 * (l * l * l * l * (1 + c)) = 0 := by rw [← z2]; grind
      have h1c := (K.mul_zero _ _ (two4 K this)).resolve_left l4
      refine ha ?_
      have : E.a = (1 + c) * (E.a - E.d) := by
        have : (1 + c) * (E.a - E.d) = E.a - E.d + c * (E.a - E.d) := by clear hc z1 z2 ht; grind
        rw [this, hc]; clear hc z1 z2 ht; grind
      rw [this, h1c]; clear hc z1 z2 ht; grind
  · subst hs
    rw [hX, hZ, tw_s2.1, tw_s2.2]
    · rw [(tw_p2 (c := c)).1, tw_p2.2]
      have ht : (p.y * p.y - c * (1 - p.y * p.y)) * (1 - E.a * p.x * p.x) = p.y * p.y := by
        rcases K.mul_zero _ _ (tw_t2 hon hc) with h1 | h1
        · exact absurd h1 had
        · exact sub_zero_eq h1
      refine ⟨K.cancel n2 (cross2 dn1 dn2 (tw_e2 ht)), fun ⟨z1, z2⟩ => ?_⟩
      have hy : p.y * p.y = 0 := by
        have : 16 * (l * l * l * l * (p.y * p.y)) = 0 := by rw [← z1]; grind
        exact (K.mul_zero _ _ (two4 K this)).resolve_left l4
      rw [hy] at z2
      have : 16 * (l * l * l * l * c) = 0 := by
        have e : 16 * (l * l * l * l * c) = 0 - 16 * (l * l * l * l) * ((1 - 0) * (0 - c * (1 - 0))) := by clear z2; grind
        rw [e, z2]
      have h1c := (K.mul_zero _ _ (two4 K this)).resolve_left l4
      rw [h1c] at hc
      exact ha (by clear z1 z2 ht; grind)
/-! ### The sum, where the difference is known -/
theorem jn_s1 {l m y z : Fin n} : (m * (1 + z) + 1 * m * (1 - z)) * (l * (1 + y) - 1 * l * (1 - y)) = 4 * (l * m) * y ∧ (m * (1 + z) - 1 * m * (1 - z)) * (l * (1 + y) + 1 * l * (1 - y)) = 4 * (l * m) * z := by constructor <;> grind
theorem jn_s2 {l m y z : Fin n} : (m * (1 + z) + (0 - 1) * m * (1 - z)) * (l * (1 + y) - (0 - 1) * l * (1 - y)) = 4 * (l * m) * z ∧ (m * (1 + z) - (0 - 1) * m * (1 - z)) * (l * (1 + y) + (0 - 1) * l * (1 - y)) = 4 * (l * m) * y := by constructor <;> grind
theorem jn_p {w y z : Fin n} : (4 * w * y + 4 * w * z) * (4 * w * y + 4 * w * z) = 16 * (w * w) * ((y + z) * (y + z)) ∧ (4 * w * y - 4 * w * z) * (4 * w * y - 4 * w * z) = 16 * (w * w) * ((y - z) * (y - z)) ∧ (4 * w * z + 4 * w * y) * (4 * w * z + 4 * w * y) = 16 * (w * w) * ((y + z) * (y + z)) ∧ (4 * w * z - 4 * w * y) * (4 * w * z - 4 * w * y) = 16 * (w * w) * ((y - z) * (y - z)) := by
  refine ⟨?_, ?_, ?_, ?_⟩ <;> grind
theorem on_split {a d x y : Fin n} (h : a * x * x + y * y = 1 + d * x * x * y * y) : (a - d * (y * y)) * (x * x) = 1 - y * y := by grind
theorem Ed.ady_ne (E : Ed K) (y : Fin n) : E.a - E.d * (y * y) ≠ 0 := fun h => by
  have hy : y ≠ 0 := fun h0 => E.a_ne (by rw [h0] at h; rw [← h]; grind)
  have hi := K.mul_inv _ hy
  refine E.nd (E.s * K.inv y) ?_
  generalize K.inv y = i at *
  have e1 : E.s * i * (E.s * i) = E.s * E.s * (i * i) := by grind
  rw [e1, E.hs]
  have e2 : E.a = E.d * (y * y) := sub_zero_eq h
  rw [e2]
  have e3 : E.d * (y * y) * (i * i) = E.d * ((y * i) * (y * i)) := by clear h e1 e2 hi; grind
  rw [e3, hi]
  clear h e1 e2 e3 hi
  grind
theorem jn_id1 {a d y z x w : Fin n} : (y + z) * (y + z) * ((1 - y * z) * (1 - y * z) - (a * x * w - d * x * w * y * z) * (a * x * w - d * x * w * y * z)) - (y - z) * (y - z) * ((1 + y * z) * (1 + y * z) - (a * x * w + d * x * w * y * z) * (a * x * w + d * x * w * y * z))
    = ((y + z) * (y + z) * ((1 - y * z) * (1 - y * z)) - (y - z) * (y - z) * ((1 + y * z) * (1 + y * z))) - ((y + z) * (y + z) * ((a - d * (y * z)) * (a - d * (y * z))) - (y - z) * (y - z) * ((a + d * (y * z)) * (a + d * (y * z)))) * (x * x * (w * w)) := by grind
theorem jn_id2 {a d y z : Fin n} : (a - d * (y * y)) * (a - d * (z * z)) * ((y + z) * (y + z) * ((1 - y * z) * (1 - y * z)) - (y - z) * (y - z) * ((1 + y * z) * (1 + y * z)))
    = ((y + z) * (y + z) * ((a - d * (y * z)) * (a - d * (y * z))) - (y - z) * (y - z) * ((a + d * (y * z)) * (a + d * (y * z)))) * ((1 - y * y) * (1 - z * z)) := by grind
theorem jn_key (E : Ed K) {x y w z : Fin n} (h1 : E.a * x * x + y * y = 1 + E.d * x * x * y * y) (h2 : E.a * w * w + z * z = 1 + E.d * w * w * z * z) :
    (y + z) * (y + z) * ((1 - y * z) * (1 - y * z) - (E.a * x * w - E.d * x * w * y * z) * (E.a * x * w - E.d * x * w * y * z)) = (y - z) * (y - z) * ((1 + y * z) * (1 + y * z) - (E.a * x * w + E.d * x * w * y * z) * (E.a * x * w + E.d * x * w * y * z)) := by
  have k1 := on_split h1
  have k2 := on_split h2
  have n1 := E.ady_ne y
  have n2 := E.ady_ne z
  apply sub_zero_eq
  refine (K.mul_zero _ _ ?_).resolve_left (K.ne_mul n1 n2)
  have e := jn_id2 (a := E.a) (d := E.d) (y := y) (z := z)
  rw [jn_id1]
  generalize (y + z) * (y + z) * ((E.a - E.d * (y * z)) * (E.a - E.d * (y * z))) - (y - z) * (y - z) * ((E.a + E.d * (y * z)) * (E.a + E.d * (y * z))) = F at *
  generalize (y + z) * (y + z) * ((1 - y * z) * (1 - y * z)) - (y - z) * (y - z) * ((1 + y * z) * (1 + y * z)) = F0 at *
  generalize E.a - E.d * (y * y) = D1 at *
  generalize E.a - E.d * (z * z) = D2 at *
  have e1 : D1 * D2 * (F0 - F * (x * x * (w * w))) = D1 * D2 * F0 - F * ((D1 * (x * x)) * (D2 * (w * w))) := by clear e k1 k2 h1 h2; grind
  rw [e1, e, k1, k2]
  clear e e1 k1 k2 h1 h2
  grind
theorem jn_dn {t A Y r q : Fin n} (h : r * (1 - t) = Y - A) (k : q * (1 + t) = Y + A) : (1 - t) * (1 - r) = 1 - t - (Y - A) ∧ (1 - t) * (1 + r) = 1 - t + (Y - A) ∧ (1 + t) * (1 - q) = 1 + t - (Y + A) ∧ (1 + t) * (1 + q) = 1 + t + (Y + A) := by
  refine ⟨?_, ?_, ?_, ?_⟩ <;> grind
theorem jn_sq {t A Y : Fin n} : (1 - t - (Y - A)) * (1 + t - (Y + A)) = (1 - Y) * (1 - Y) - (A - t) * (A - t) ∧ (1 + t + (Y + A)) * (1 - t + (Y - A)) = (1 + Y) * (1 + Y) - (A + t) * (A + t) := by
  constructor <;> grind
theorem jn_fin {W T P M u s al be ga de : Fin n} (hu : s * u * al = be) (hk : P * (ga * al) = M * (be * de)) (ss : s * s = 1) : al * (s * (W * P) * ga) = al * (u * (W * M) * de) := by
  have e1 : al * (s * (W * P) * ga) = s * W * (P * (ga * al)) := by clear hu hk ss; grind
  have e2 : s * W * (M * (s * u * al * de)) = s * s * (al * (u * (W * M) * de)) := by clear hu hk ss e1; grind
  rw [e1, hk, ← hu, e2, ss]
  clear hu hk ss e1 e2
  grind
theorem Kp.joined {E : Ed K} {s X Z X' Z' u : Fin n} {p q : P2 n} (ss : s * s = 1) (hs : s = 1 ∨ s = 0 - 1) (h : Kp s X Z p) (h' : Kp s X' Z' q) (hp : E.on p) (hq : E.on q) (hu : Kp s u 1 (E.add q p.neg)) (u0 : u ≠ 0) :
    Kp s (((X' + Z') * (X - Z) + (X' - Z') * (X + Z)) * ((X' + Z') * (X - Z) + (X' - Z') * (X + Z))) (u * (((X' + Z') * (X - Z) - (X' - Z') * (X + Z)) * ((X' + Z') * (X - Z) - (X' - Z') * (X + Z)))) (E.add p q) := by
  obtain ⟨l, l0, hX, hZ⟩ := h.scale K ss
  obtain ⟨m, m0, hX', hZ'⟩ := h'.scale K ss
  obtain ⟨-, sy⟩ := E.add_spec hp hq
  obtain ⟨-, ty⟩ := E.add_spec hq (E.neg_on hp)
  have n2 := E.minus_ne hp hq
  have n3 := E.minus_ne hq (E.neg_on hp)
  have key := jn_key E (x := p.x) (y := p.y) (w := q.x) (z := q.y) hp hq
  have hon1 : E.a * p.x * p.x + p.y * p.y = 1 + E.d * p.x * p.x * p.y * p.y := hp
  have hon2 : E.a * q.x * q.x + q.y * q.y = 1 + E.d * q.x * q.x * q.y * q.y := hq
  have w0 : l * m * (l * m) ≠ 0 := K.ne_mul (K.ne_mul l0 m0) (K.ne_mul l0 m0)
  have ee : ((X' + Z') * (X - Z) + (X' - Z') * (X + Z)) * ((X' + Z') * (X - Z) + (X' - Z') * (X + Z)) = 16 * (l * m * (l * m)) * ((p.y + q.y) * (p.y + q.y)) ∧ ((X' + Z') * (X - Z) - (X' - Z') * (X + Z)) * ((X' + Z') * (X - Z) - (X' - Z') * (X + Z)) = 16 * (l * m * (l * m)) * ((p.y - q.y) * (p.y - q.y)) := by
    rw [hX, hZ, hX', hZ']
    rcases hs with rfl | rfl
    · rw [jn_s1.1, jn_s1.2]
      exact ⟨jn_p.1, jn_p.2.1⟩
    · rw [jn_s2.1, jn_s2.2]
      exact ⟨jn_p.2.2.1, jn_p.2.2.2⟩
  rw [ee.1, ee.2]
  clear ee hX hZ hX' hZ' h h'
  have hue := hu.eq
  generalize E.add p q = r at *
  generalize E.add q p.neg = r' at *
  unfold Ed.dl P2.neg at *
  dsimp only at *
  have sy' : r.y * (1 - E.d * p.x * q.x * p.y * q.y) = p.y * q.y - E.a * p.x * q.x := sy
  have ty' : r'.y * (1 + E.d * p.x * q.x * p.y * q.y) = p.y * q.y + E.a * p.x * q.x := by
    have e1 : 1 - E.d * q.x * (0 - p.x) * q.y * p.y = 1 + E.d * p.x * q.x * p.y * q.y := by clear key sy ty hue hon1 hon2; grind
    rw [← e1, ty]; clear key sy ty hue hon1 hon2 e1; grind
  have n3' : 1 + E.d * p.x * q.x * p.y * q.y ≠ 0 := fun h0 => n3 (by rw [← h0]; clear key sy ty hue hon1 hon2; grind)
  obtain ⟨d1, d2, d3, d4⟩ := jn_dn sy' ty'
  have q1 := (jn_sq (t := E.d * p.x * q.x * p.y * q.y) (A := E.a * p.x * q.x) (Y := p.y * q.y)).1
  have q2 := (jn_sq (t := E.d * p.x * q.x * p.y * q.y) (A := E.a * p.x * q.x) (Y := p.y * q.y)).2
  rw [← q1, ← q2, ← d1, ← d2, ← d3, ← d4] at key
  clear q1 q2 d1 d2 d3 d4
  have hne : (1 + E.d * p.x * q.x * p.y * q.y) * (1 - r'.y) ≠ 0 := K.ne_mul n3' fun h0 => by
    rw [h0] at hue
    have : r'.y = 1 := by clear key hue sy ty sy' ty'; grind
    rw [this] at hue
    exact K.two_ne (by clear key sy ty sy' ty' h0 this; grind)
  have hu2 : s * u * ((1 + E.d * p.x * q.x * p.y * q.y) * (1 - r'.y)) = (1 + E.d * p.x * q.x * p.y * q.y) * (1 + r'.y) := by
    have : s * u * ((1 + E.d * p.x * q.x * p.y * q.y) * (1 - r'.y)) = (1 + E.d * p.x * q.x * p.y * q.y) * (s * u * (1 - r'.y)) := by clear key hue sy ty sy' ty'; grind
    rw [this, hue]; clear key hue sy ty sy' ty' this; grind
  refine ⟨?_, fun ⟨z1, z2⟩ => ?_⟩
  · refine K.cancel n2 (K.cancel hne ?_)
    have := jn_fin (W := 16 * (l * m * (l * m))) (T := 0) hu2 key ss
    generalize (1 + E.d * p.x * q.x * p.y * q.y) * (1 - r'.y) = al at *
    generalize 1 - E.d * p.x * q.x * p.y * q.y = D at *
    have e1 : al * (D * (s * (16 * (l * m * (l * m)) * ((p.y + q.y) * (p.y + q.y))) * (1 - r.y))) = al * (s * (16 * (l * m * (l * m)) * ((p.y + q.y) * (p.y + q.y))) * (D * (1 - r.y))) := by clear key hue sy ty sy' ty' this hu2 hon1 hon2; grind
    have e2 : al * (D * (u * (16 * (l * m * (l * m)) * ((p.y - q.y) * (p.y - q.y))) * (1 + r.y))) = al * (u * (16 * (l * m * (l * m)) * ((p.y - q.y) * (p.y - q.y))) * (D * (1 + r.y))) := by clear key hue sy ty sy' ty' this hu2 hon1 hon2 e1; grind
    rw [e1, e2, this]
  · have hy1 : p.y + q.y = 0 := by
      have : 16 * (l * m * (l * m) * ((p.y + q.y) * (p.y + q.y))) = 0 := by rw [← z1]; clear key hue sy ty sy' ty' hu2 hon1 hon2 z1 z2; grind
      have := (K.mul_zero _ _ (two4 K this)).resolve_left w0
      exact (K.mul_zero _ _ this).elim id id
    have hy2 : p.y - q.y = 0 := by
      have := (K.mul_zero _ _ z2).resolve_left u0
      have : 16 * (l * m * (l * m) * ((p.y - q.y) * (p.y - q.y))) = 0 := by rw [← this]; clear key hue sy ty sy' ty' hu2 hon1 hon2 z1 z2 this; grind
      have := (K.mul_zero _ _ (two4 K this)).resolve_left w0
      exact (K.mul_zero _ _ this).elim id id
    have y0 : p.y = 0 := by
      have : 2 * p.y = 0 := by clear key hue sy ty sy' ty' hu2 hon1 hon2 z1 z2; grind
      exact (K.mul_zero _ _ this).resolve_left K.two_ne
    have y1 : q.y = 0 := by rw [y0] at hy1; clear key hue sy ty sy' ty' hu2 hon1 hon2 z1 z2; grind
    rw [y0, y1] at ty'
    rw [y0] at hon1
    rw [y1] at hon2
    have hr : r'.y * r'.y = 1 := by
      have a1 : E.a * p.x * p.x = 1 := by clear key hue sy ty sy' ty' hu2 hon2 z1 z2; grind
      have a2 : E.a * q.x * q.x = 1 := by clear key hue sy ty sy' ty' hu2 hon1 z1 z2 a1; grind
      have e1 : r'.y = E.a * p.x * q.x := by clear key hue sy ty sy' hu2 hon1 hon2 z1 z2 a1 a2; grind
      rw [e1]
      have e2 : E.a * p.x * q.x * (E.a * p.x * q.x) = (E.a * p.x * p.x) * (E.a * q.x * q.x) := by clear key hue sy ty sy' ty' hu2 hon1 hon2 z1 z2 a1 a2 e1; grind
      rw [e2, a1, a2]; clear key hue sy ty sy' ty' hu2 hon1 hon2 z1 z2 a1 a2 e1 e2; grind
    have hcase : (r'.y - 1) * (r'.y + 1) = 0 := by clear key hue sy ty sy' ty' hu2 hon1 hon2 z1 z2; grind
    rcases K.mul_zero _ _ hcase with h1 | h1
    · have : r'.y = 1 := sub_zero_eq h1
      rw [this] at hue
      exact K.two_ne (by clear key sy ty sy' ty' hu2 hon1 hon2 z1 z2 h1 this hr hcase; grind)
    · have e1 : r'.y = 0 - 1 := by clear key hue sy ty sy' ty' hu2 hon1 hon2 z1 z2 hcase hr; grind
      rw [e1] at hue
      have : 2 * (s * u) = 0 := by clear key sy ty sy' ty' hu2 hon1 hon2 z1 z2 h1 e1 hr hcase; grind
      have h2 := (K.mul_zero _ _ this).resolve_left K.two_ne
      refine u0 ?_
      have : s * (s * u) = 0 := by rw [h2]; clear key sy ty sy' ty' hu2 hon1 hon2 z1 z2 h1 e1 hr hcase hue this; grind
      have e2 : s * (s * u) = s * s * u := by clear key sy ty sy' ty' hu2 hon1 hon2 z1 z2 h1 e1 hr hcase hue this; grind
      rw [e2, ss] at this
      clear key sy ty sy' ty' hu2 hon1 hon2 z1 z2 h1 e1 hr hcase hue
      grind
end Go.Proofs.Ytjiiccainfhgkaa
namespace Go.Proofs.Ytjiiccainfhgkaa
set_option linter.unusedVariables false
/-- Powers by squaring, from the highest bit on: for computing. -/
def qpowF (p a : Nat) : Nat → Nat → Nat
  | 0, _ => 1 % p
  | f + 1, n => if n = 0 then 1 % p else let h := qpowF p a f (n / 2); if n % 2 = 1 then h * h % p * a % p else h * h % p
def qpow (p a n : Nat) : Nat := qpowF p a (n.log2 + 1) n
theorem qpowF_is (p a : Nat) : ∀ f n, n < 2 ^ f → qpowF p a f n = a ^ n % p
  | 0, n, h => by
    have : n = 0 := by simpa using h
    subst this; rfl
  | f + 1, n, h => by
    unfold qpowF
    by_cases h0 : n = 0
    · subst h0; rfl
    · rw [if_neg h0]
      have ih := qpowF_is p a f (n / 2) (by rw [Nat.pow_succ] at h; omega)
      dsimp only
      rw [ih]
      by_cases h1 : n % 2 = 1
      · rw [if_pos h1, ← Nat.mul_mod, ← Nat.pow_add, Nat.mod_mul_mod, ← Nat.pow_succ, show (n / 2 + n / 2).succ = n by omega]
      · rw [if_neg h1, Nat.mod_mul_mod, Nat.mul_mod_mod, ← Nat.pow_add, show n / 2 + n / 2 = n by omega]
theorem qpow_is (p a n : Nat) : qpow p a n = a ^ n % p := qpowF_is p a _ n Nat.lt_log2_self
/-- A prime. -/
def Prime (p : Nat) : Prop := 2 ≤ p ∧ ∀ d, d ∣ p → d = 1 ∨ d = p
theorem Prime.pos {p : Nat} (h : Prime p) : 0 < p := by have := h.1; omega
theorem Prime.coprime {p a : Nat} (h : Prime p) (ha : ¬ p ∣ a) : Nat.gcd a p = 1 := by
  rcases h.2 _ (Nat.gcd_dvd_right a p) with h1 | h1
  · exact h1
  · exact absurd (h1 ▸ Nat.gcd_dvd_left a p) ha
theorem Prime.dvd_mul {p a b : Nat} (h : Prime p) (hd : p ∣ a * b) : p ∣ a ∨ p ∣ b := by
  by_cases ha : p ∣ a
  · exact .inl ha
  · refine .inr ?_
    have hc : Nat.Coprime p a := by rw [Nat.coprime_comm]; exact h.coprime ha
    exact hc.dvd_of_dvd_mul_left hd
theorem Prime.dvd_pow {p a : Nat} (h : Prime p) : ∀ {n : Nat}, p ∣ a ^ n → p ∣ a
  | 0, hd => by
    rw [Nat.pow_zero] at hd
    have := Nat.le_of_dvd (by decide) hd
    have := h.1
    omega
  | n + 1, hd => by
    rw [Nat.pow_succ] at hd
    rcases h.dvd_mul hd with h1 | h1
    · exact h.dvd_pow h1
    · exact h1
/-! ### The order of a number -/
/-- The least power, not none, that is 1. -/
def IsOrd (p g k : Nat) : Prop := 0 < k ∧ g ^ k % p = 1 ∧ ∀ j, 0 < j → g ^ j % p = 1 → k ≤ j
theorem exists_ord {p g n : Nat} (hn : 0 < n) (h : g ^ n % p = 1) : ∃ k, IsOrd p g k := by
  have key : ∀ m, (∃ j, 0 < j ∧ j ≤ m ∧ g ^ j % p = 1) → ∃ k, IsOrd p g k := by
    intro m
    induction m with
    | zero => rintro ⟨j, h1, h2, -⟩; omega
    | succ m ih =>
      rintro ⟨j, h1, h2, h3⟩
      by_cases hm : ∃ j, 0 < j ∧ j ≤ m ∧ g ^ j % p = 1
      · exact ih hm
      · refine ⟨j, h1, h3, fun i hi hp => ?_⟩
        have : ¬ i ≤ m := fun hle => hm ⟨i, hi, hle, hp⟩
        omega
  exact key n ⟨n, hn, Nat.le_refl _, h⟩
theorem one_mod {p : Nat} (hp : 2 ≤ p) : 1 % p = 1 := Nat.mod_eq_of_lt hp
theorem pow_mod_mul {p g m n : Nat} : g ^ (m * n) % p = (g ^ m % p) ^ n % p := by rw [Nat.pow_mul, Nat.pow_mod]
theorem ord_dvd {p g k n : Nat} (hp : 2 ≤ p) (ho : IsOrd p g k) (h : g ^ n % p = 1) : k ∣ n := by
  obtain ⟨h0, h1, h2⟩ := ho
  have e : g ^ n % p = g ^ (n % k) % p := by
    have hd := Nat.mod_add_div n k
    conv => lhs; rw [← hd]
    rw [Nat.pow_add, Nat.mul_mod, pow_mod_mul, h1, Nat.one_pow, one_mod hp, Nat.mul_one, Nat.mod_mod]
  rw [e] at h
  rcases Nat.eq_zero_or_pos (n % k) with h3 | h3
  · exact Nat.dvd_of_mod_eq_zero h3
  · have := h2 _ h3 h
    have := Nat.mod_lt n h0
    omega
/-- Every number above 1 has a prime in it. -/
theorem exists_prime {n : Nat} (h : 2 ≤ n) : ∃ q, Prime q ∧ q ∣ n := by
  induction n using Nat.strongRecOn with
  | _ n ih =>
    by_cases hp : Prime n
    · exact ⟨n, hp, Nat.dvd_refl n⟩
    · have : ∃ d, d ∣ n ∧ d ≠ 1 ∧ d ≠ n := by
        apply Classical.byContradiction
        intro hno
        refine hp ⟨h, fun d hd => ?_⟩
        apply Classical.byContradiction
        intro hn
        exact hno ⟨d, hd, fun e => hn (.inl e), fun e => hn (.inr e)⟩
      obtain ⟨d, hd, h1, h2⟩ := this
      have hle := Nat.le_of_dvd (by omega) hd
      have h0 : d ≠ 0 := fun e => by subst e; rw [Nat.zero_dvd] at hd; omega
      obtain ⟨q, hq, hqd⟩ := ih d (by omega) (by omega)
      exact ⟨q, hq, Nat.dvd_trans hqd hd⟩
/-- All prime divisors of a product are among those listed. -/
theorem prime_of_prod {q : Nat} (hq : Prime q) : ∀ (l : List Nat), (∀ x ∈ l, Prime x) → q ∣ l.foldr (· * ·) 1 → q ∈ l
  | [], _, h => by
    have := Nat.le_of_dvd (by decide) h
    have := hq.1
    simp only [List.foldr_nil] at *
    omega
  | x :: l, hl, h => by
    rw [List.foldr_cons] at h
    rcases hq.dvd_mul h with h1 | h1
    · rcases (hl x List.mem_cons_self).2 q h1 with h2 | h2
      · have := hq.1; omega
      · exact h2 ▸ List.mem_cons_self
    · exact List.mem_cons_of_mem _ (prime_of_prod hq l (fun y hy => hl y (List.mem_cons_of_mem _ hy)) h1)
/-- The order is as high as it is said, if none of its parts does. -/
theorem ord_full {p g n : Nat} {l : List Nat} (hp : 2 ≤ p) (hl : ∀ x ∈ l, Prime x) (hn : n = l.foldr (· * ·) 1) (h1 : g ^ n % p = 1) (hq : ∀ q ∈ l, g ^ (n / q) % p ≠ 1) (h0 : 0 < n) : IsOrd p g n := by
  obtain ⟨k, ho⟩ := exists_ord h0 h1
  obtain ⟨c, hc⟩ := ord_dvd hp ho h1
  by_cases h2 : 2 ≤ c
  · obtain ⟨q, hqp, d, hd⟩ := exists_prime h2
    have hqn : q ∣ n := ⟨k * d, by rw [hc, hd, Nat.mul_left_comm]⟩
    have hm := prime_of_prod hqp l hl (hn ▸ hqn)
    refine absurd ?_ (hq q hm)
    have : n / q = k * d := by
      rw [hc, hd, Nat.mul_left_comm, Nat.mul_div_cancel_left _ hqp.pos]
    rw [this, pow_mod_mul, ho.2.1, Nat.one_pow, one_mod hp]
  · have : c = 1 := by
      rcases Nat.eq_zero_or_pos c with hz | hz
      · subst hz; omega
      · omega
    subst this
    rw [Nat.mul_one] at hc
    rw [hc]; exact ho
/-- No two of the first powers are alike. -/
theorem ord_inj {p g n i j : Nat} (hp : 2 ≤ p) (ho : IsOrd p g n) (hi : i < n) (hj : j < n) (h : g ^ i % p = g ^ j % p) : i = j := by
  have key : ∀ i j, i < j → j < n → g ^ i % p = g ^ j % p → False := by
    intro i j hij hj h
    have e : g ^ (j + (n - j)) % p = g ^ (i + (n - j)) % p := by rw [Nat.pow_add, Nat.pow_add, Nat.mul_mod, ← h, ← Nat.mul_mod]
    rw [show j + (n - j) = n by omega, ho.2.1] at e
    have := ho.2.2 (i + (n - j)) (by omega) e.symm
    omega
  rcases Nat.lt_trichotomy i j with h1 | h1 | h1
  · exact (key i j h1 hj h).elim
  · exact h1
  · exact (key j i h1 hi h.symm).elim
/-- As many different ones below n as n, and all are there (pigeons and holes). -/
theorem surj_of_inj : ∀ (n : Nat) (f : Nat → Nat), (∀ i, i < n → f i < n) → (∀ i j, i < n → j < n → f i = f j → i = j) → ∀ y, y < n → ∃ i, i < n ∧ f i = y
  | 0, _, _, _, y, hy => by omega
  | n + 1, f, hf, hi, y, hy => by
    -- f with the place n taken out
    let g : Nat → Nat := fun i => if f i = n then f n else f i
    have hg : ∀ i, i < n → g i < n := fun i hin => by
      show (if f i = n then f n else f i) < n
      have h1 := hf i (by omega)
      have h2 := hf n (by omega)
      split
      · rename_i e
        rcases Nat.lt_or_ge (f n) n with h | h
        · exact h
        · have : f n = f i := by omega
          have := hi n i (by omega) (by omega) this
          omega
      · omega
    have hgi : ∀ i j, i < n → j < n → g i = g j → i = j := fun i j hin hjn h => by
      replace h : (if f i = n then f n else f i) = (if f j = n then f n else f j) := h
      split at h <;> split at h
      · rename_i a b; exact hi i j (by omega) (by omega) (a.trans b.symm)
      · have := hi n j (by omega) (by omega) h; omega
      · have := hi i n (by omega) (by omega) h; omega
      · exact hi i j (by omega) (by omega) h
    have ih := surj_of_inj n g hg hgi
    by_cases hyn : y < n
    · obtain ⟨i, h1, h2⟩ := ih y hyn
      replace h2 : (if f i = n then f n else f i) = y := h2
      split at h2
      · exact ⟨n, by omega, h2⟩
      · exact ⟨i, by omega, h2⟩
    · have hy' : y = n := by omega
      subst hy'
      apply Classical.byContradiction
      intro hno
      have hne : ∀ i, i < y + 1 → f i ≠ y := fun i h1 h2 => hno ⟨i, h1, h2⟩
      have hfn : f y < y := by have := hf y (by omega); have := hne y (by omega); omega
      obtain ⟨i, h1, h2⟩ := ih (f y) hfn
      replace h2 : (if f i = y then f y else f i) = f y := h2
      rw [if_neg (hne i (by omega))] at h2
      have := hi i y (by omega) (by omega) h2
      omega
/-- LUCAS, PRATT: whose order is p - 1 makes p prime, and all but 0 are its powers. -/
theorem gen_all {p g : Nat} (hp : 2 ≤ p) (ho : IsOrd p g (p - 1)) : ∀ a, 0 < a → a < p → ∃ i, i < p - 1 ∧ g ^ i % p = a := by
  have hne : ∀ i, i < p - 1 → 0 < g ^ i % p := fun i hi => by
    rcases Nat.eq_zero_or_pos (g ^ i % p) with h | h
    · exfalso
      have : g ^ (i + (p - 1 - i)) % p = 0 := by rw [Nat.pow_add, Nat.mul_mod, h, Nat.zero_mul, Nat.zero_mod]
      rw [show i + (p - 1 - i) = p - 1 by omega, ho.2.1] at this
      omega
    · exact h
  intro a h0 ha
  obtain ⟨i, h1, h2⟩ := surj_of_inj (p - 1) (fun i => g ^ i % p - 1) (fun i hi => by have := hne i hi; have := Nat.mod_lt (g ^ i) (show 0 < p by omega); omega)
    (fun i j hi hj h => ord_inj hp ho hi hj (by have := hne i hi; have := hne j hj; omega)) (a - 1) (by omega)
  refine ⟨i, h1, ?_⟩
  have := hne i h1
  omega
theorem prime_of_ord {p g : Nat} (hp : 2 ≤ p) (ho : IsOrd p g (p - 1)) : Prime p := by
  refine ⟨hp, fun d hd => ?_⟩
  have hle := Nat.le_of_dvd (by omega) hd
  have h0 : 0 < d := by
    rcases Nat.eq_zero_or_pos d with h | h
    · subst h; rw [Nat.zero_dvd] at hd; omega
    · exact h
  rcases Nat.lt_or_ge d p with hlt | hge
  · left
    obtain ⟨i, hi, he⟩ := gen_all hp ho d h0 hlt
    -- d times g^(p-1-i) is 1, and d divides p
    have h1 : d * g ^ (p - 1 - i) % p = 1 := by
      rw [← he, Nat.mod_mul_mod, ← Nat.pow_add, show i + (p - 1 - i) = p - 1 by omega]; exact ho.2.1
    have h2 : d ∣ 1 := by
      rw [← h1]
      exact (Nat.dvd_mod_iff hd).2 (Nat.dvd_mul_right d _)
    exact Nat.le_antisymm (Nat.le_of_dvd (by decide) h2) h0
  · right; omega
/-- A certificate: the base, and the primes that make p - 1. -/
def certB (p g : Nat) (l : List Nat) : Bool := decide (2 ≤ p) && decide (p - 1 = l.foldr (· * ·) 1) && decide (qpow p g (p - 1) = 1) && l.all fun q => decide (qpow p g ((p - 1) / q) ≠ 1)
theorem cert_ord {p g : Nat} {l : List Nat} (h : certB p g l = true) (hl : ∀ x ∈ l, Prime x) : IsOrd p g (p - 1) := by
  simp only [certB, Bool.and_eq_true, decide_eq_true_eq, List.all_eq_true] at h
  obtain ⟨⟨⟨h1, h2⟩, h3⟩, h4⟩ := h
  rw [qpow_is] at h3
  exact ord_full h1 hl h2 h3 (fun q hq => by have := h4 q hq; rwa [qpow_is] at this) (by omega)
theorem cert_prime {p g : Nat} {l : List Nat} (h : certB p g l = true) (hl : ∀ x ∈ l, Prime x) : Prime p := by
  have h1 : 2 ≤ p := by
    simp only [certB, Bool.and_eq_true, decide_eq_true_eq] at h
    exact h.1.1.1
  exact prime_of_ord h1 (cert_ord h hl)
/-- Small ones by trial. -/
def smallB (p : Nat) : Bool := decide (2 ≤ p) && (List.range p).all fun d => decide (d * d > p) || decide (d ≤ 1) || decide (p % d ≠ 0)
theorem small_prime {p : Nat} (h : smallB p = true) : Prime p := by
  simp only [smallB, Bool.and_eq_true, decide_eq_true_eq, List.all_eq_true, List.mem_range, Bool.or_eq_true] at h
  obtain ⟨h1, h2⟩ := h
  refine ⟨h1, fun d hd => ?_⟩
  obtain ⟨c, hc⟩ := hd
  have h0 : 0 < d := Nat.pos_of_ne_zero fun e => by subst e; omega
  have c0 : 0 < c := Nat.pos_of_ne_zero fun e => by subst e; omega
  have key : ∀ x y, 0 < x → 0 < y → p = x * y → x ≤ y → x = 1 := fun x y hx hy he hle => by
    by_cases hx1 : x ≤ 1
    · omega
    · exfalso
      have hxp : x < p := by
        have : x * 2 ≤ x * y := Nat.mul_le_mul_left x (by omega)
        omega
      rcases h2 x hxp with (h3 | h3) | h3
      · have : x * x ≤ x * y := Nat.mul_le_mul_left x hle
        omega
      · omega
      · exact h3 (by rw [he]; exact Nat.mul_mod_right x y)
  rcases Nat.le_total d c with h3 | h3
  · exact .inl (key d c h0 c0 hc h3)
  · have := key c d c0 h0 (by rw [hc, Nat.mul_comm]) h3
    subst this
    right; omega
end Go.Proofs.Ytjiiccainfhgkaa
namespace Go.Proofs.Ytjiiccainfhgkaa
theorem prime_2 : Prime 2 := small_prime (by decide +kernel)
theorem prime_3 : Prime 3 := small_prime (by decide +kernel)
theorem prime_5 : Prime 5 := small_prime (by decide +kernel)
theorem prime_7 : Prime 7 := small_prime (by decide +kernel)
theorem prime_11 : Prime 11 := small_prime (by decide +kernel)
theorem prime_13 : Prime 13 := small_prime (by decide +kernel)
theorem prime_17 : Prime 17 := small_prime (by decide +kernel)
theorem prime_19 : Prime 19 := small_prime (by decide +kernel)
theorem prime_23 : Prime 23 := small_prime (by decide +kernel)
theorem prime_29 : Prime 29 := small_prime (by decide +kernel)
theorem prime_31 : Prime 31 := small_prime (by decide +kernel)
theorem prime_37 : Prime 37 := small_prime (by decide +kernel)
theorem prime_41 : Prime 41 := small_prime (by decide +kernel)
theorem prime_43 : Prime 43 := small_prime (by decide +kernel)
theorem prime_47 : Prime 47 := small_prime (by decide +kernel)
theorem prime_53 : Prime 53 := small_prime (by decide +kernel)
theorem prime_59 : Prime 59 := small_prime (by decide +kernel)
theorem prime_67 : Prime 67 := small_prime (by decide +kernel)
theorem prime_73 : Prime 73 := small_prime (by decide +kernel)
theorem prime_79 : Prime 79 := small_prime (by decide +kernel)
theorem prime_83 : Prime 83 := small_prime (by decide +kernel)
theorem prime_97 : Prime 97 := small_prime (by decide +kernel)
theorem cert_239 : certB 239 7 [2, 7, 17] = true := by decide +kernel
theorem parts_239 : ∀ x ∈ ([2, 7, 17] : List Nat), Prime x := by
  intro x hx
  simp only [List.mem_cons, List.not_mem_nil, or_false] at hx
  rcases hx with rfl | rfl | rfl
  · exact prime_2
  · exact prime_7
  · exact prime_17
theorem prime_239 : Prime 239 := cert_prime cert_239 parts_239
theorem cert_479 : certB 479 13 [2, 239] = true := by decide +kernel
theorem parts_479 : ∀ x ∈ ([2, 239] : List Nat), Prime x := by
  intro x hx
  simp only [List.mem_cons, List.not_mem_nil, or_false] at hx
  rcases hx with rfl | rfl
  · exact prime_2
  · exact prime_239
theorem prime_479 : Prime 479 := cert_prime cert_479 parts_479
theorem cert_32573 : certB 32573 2 [2, 2, 17, 479] = true := by decide +kernel
theorem parts_32573 : ∀ x ∈ ([2, 2, 17, 479] : List Nat), Prime x := by
  intro x hx
  simp only [List.mem_cons, List.not_mem_nil, or_false] at hx
  rcases hx with rfl | rfl | rfl | rfl
  · exact prime_2
  · exact prime_2
  · exact prime_17
  · exact prime_479
theorem prime_32573 : Prime 32573 := cert_prime cert_32573 parts_32573
theorem cert_65147 : certB 65147 2 [2, 32573] = true := by decide +kernel
theorem parts_65147 : ∀ x ∈ ([2, 32573] : List Nat), Prime x := by
  intro x hx
  simp only [List.mem_cons, List.not_mem_nil, or_false] at hx
  rcases hx with rfl | rfl
  · exact prime_2
  · exact prime_32573
theorem prime_65147 : Prime 65147 := cert_prime cert_65147 parts_65147
theorem cert_353 : certB 353 3 [2, 2, 2, 2, 2, 11] = true := by decide +kernel
theorem parts_353 : ∀ x ∈ ([2, 2, 2, 2, 2, 11] : List Nat), Prime x := by
  intro x hx
  simp only [List.mem_cons, List.not_mem_nil, or_false] at hx
  rcases hx with rfl | rfl | rfl | rfl | rfl | rfl
  · exact prime_2
  · exact prime_2
  · exact prime_2
  · exact prime_2
  · exact prime_2
  · exact prime_11
theorem prime_353 : Prime 353 := cert_prime cert_353 parts_353
theorem cert_487 : certB 487 3 [2, 3, 3, 3, 3, 3] = true := by decide +kernel
theorem parts_487 : ∀ x ∈ ([2, 3, 3, 3, 3, 3] : List Nat), Prime x := by
  intro x hx
  simp only [List.mem_cons, List.not_mem_nil, or_false] at hx
  rcases hx with rfl | rfl | rfl | rfl | rfl | rfl
  · exact prime_2
  · exact prime_3
  · exact prime_3
  · exact prime_3
  · exact prime_3
  · exact prime_3
theorem prime_487 : Prime 487 := cert_prime cert_487 parts_487
theorem cert_57467 : certB 57467 2 [2, 59, 487] = true := by decide +kernel
theorem parts_57467 : ∀ x ∈ ([2, 59, 487] : List Nat), Prime x := by
  intro x hx
  simp only [List.mem_cons, List.not_mem_nil, or_false] at hx
  rcases hx with rfl | rfl | rfl
  · exact prime_2
  · exact prime_59
  · exact prime_487
theorem prime_57467 : Prime 57467 := cert_prime cert_57467 parts_57467
theorem cert_131 : certB 131 2 [2, 5, 13] = true := by decide +kernel
theorem parts_131 : ∀ x ∈ ([2, 5, 13] : List Nat), Prime x := by
  intro x hx
  simp only [List.mem_cons, List.not_mem_nil, or_false] at hx
  rcases hx with rfl | rfl | rfl
  · exact prime_2
  · exact prime_5
  · exact prime_13
theorem prime_131 : Prime 131 := cert_prime cert_131 parts_131
theorem cert_132049 : certB 132049 26 [2, 2, 2, 2, 3, 3, 7, 131] = true := by decide +kernel
theorem parts_132049 : ∀ x ∈ ([2, 2, 2, 2, 3, 3, 7, 131] : List Nat), Prime x := by
  intro x hx
  simp only [List.mem_cons, List.not_mem_nil, or_false] at hx
  rcases hx with rfl | rfl | rfl | rfl | rfl | rfl | rfl | rfl
  · exact prime_2
  · exact prime_2
  · exact prime_2
  · exact prime_2
  · exact prime_3
  · exact prime_3
  · exact prime_7
  · exact prime_131
theorem prime_132049 : Prime 132049 := cert_prime cert_132049 parts_132049
theorem cert_3727 : certB 3727 3 [2, 3, 3, 3, 3, 23] = true := by decide +kernel
theorem parts_3727 : ∀ x ∈ ([2, 3, 3, 3, 3, 23] : List Nat), Prime x := by
  intro x hx
  simp only [List.mem_cons, List.not_mem_nil, or_false] at hx
  rcases hx with rfl | rfl | rfl | rfl | rfl | rfl
  · exact prime_2
  · exact prime_3
  · exact prime_3
  · exact prime_3
  · exact prime_3
  · exact prime_23
theorem prime_3727 : Prime 3727 := cert_prime cert_3727 parts_3727
theorem cert_1923133 : certB 1923133 2 [2, 2, 3, 43, 3727] = true := by decide +kernel
theorem parts_1923133 : ∀ x ∈ ([2, 2, 3, 43, 3727] : List Nat), Prime x := by
  intro x hx
  simp only [List.mem_cons, List.not_mem_nil, or_false] at hx
  rcases hx with rfl | rfl | rfl | rfl | rfl
  · exact prime_2
  · exact prime_2
  · exact prime_3
  · exact prime_43
  · exact prime_3727
theorem prime_1923133 : Prime 1923133 := cert_prime cert_1923133 parts_1923133
theorem cert_107 : certB 107 2 [2, 53] = true := by decide +kernel
theorem parts_107 : ∀ x ∈ ([2, 53] : List Nat), Prime x := by
  intro x hx
  simp only [List.mem_cons, List.not_mem_nil, or_false] at hx
  rcases hx with rfl | rfl
  · exact prime_2
  · exact prime_53
theorem prime_107 : Prime 107 := cert_prime cert_107 parts_107
theorem cert_223 : certB 223 3 [2, 3, 37] = true := by decide +kernel
theorem parts_223 : ∀ x ∈ ([2, 3, 37] : List Nat), Prime x := by
  intro x hx
  simp only [List.mem_cons, List.not_mem_nil, or_false] at hx
  rcases hx with rfl | rfl | rfl
  · exact prime_2
  · exact prime_3
  · exact prime_37
theorem prime_223 : Prime 223 := cert_prime cert_223 parts_223
theorem cert_173 : certB 173 2 [2, 2, 43] = true := by decide +kernel
theorem parts_173 : ∀ x ∈ ([2, 2, 43] : List Nat), Prime x := by
  intro x hx
  simp only [List.mem_cons, List.not_mem_nil, or_false] at hx
  rcases hx with rfl | rfl | rfl
  · exact prime_2
  · exact prime_2
  · exact prime_43
theorem prime_173 : Prime 173 := cert_prime cert_173 parts_173
theorem cert_4153 : certB 4153 5 [2, 2, 2, 3, 173] = true := by decide +kernel
theorem parts_4153 : ∀ x ∈ ([2, 2, 2, 3, 173] : List Nat), Prime x := by
  intro x hx
  simp only [List.mem_cons, List.not_mem_nil, or_false] at hx
  rcases hx with rfl | rfl | rfl | rfl | rfl
  · exact prime_2
  · exact prime_2
  · exact prime_2
  · exact prime_3
  · exact prime_173
theorem prime_4153 : Prime 4153 := cert_prime cert_4153 parts_4153
theorem cert_1723 : certB 1723 3 [2, 3, 7, 41] = true := by decide +kernel
theorem parts_1723 : ∀ x ∈ ([2, 3, 7, 41] : List Nat), Prime x := by
  intro x hx
  simp only [List.mem_cons, List.not_mem_nil, or_false] at hx
  rcases hx with rfl | rfl | rfl | rfl
  · exact prime_2
  · exact prime_3
  · exact prime_7
  · exact prime_41
theorem prime_1723 : Prime 1723 := cert_prime cert_1723 parts_1723
theorem cert_430751 : certB 430751 17 [2, 5, 5, 5, 1723] = true := by decide +kernel
theorem parts_430751 : ∀ x ∈ ([2, 5, 5, 5, 1723] : List Nat), Prime x := by
  intro x hx
  simp only [List.mem_cons, List.not_mem_nil, or_false] at hx
  rcases hx with rfl | rfl | rfl | rfl | rfl
  · exact prime_2
  · exact prime_5
  · exact prime_5
  · exact prime_5
  · exact prime_1723
theorem prime_430751 : Prime 430751 := cert_prime cert_430751 parts_430751
theorem cert_31757755568855353 : certB 31757755568855353 10 [2, 2, 2, 3, 31, 107, 223, 4153, 430751] = true := by decide +kernel
theorem parts_31757755568855353 : ∀ x ∈ ([2, 2, 2, 3, 31, 107, 223, 4153, 430751] : List Nat), Prime x := by
  intro x hx
  simp only [List.mem_cons, List.not_mem_nil, or_false] at hx
  rcases hx with rfl | rfl | rfl | rfl | rfl | rfl | rfl | rfl | rfl
  · exact prime_2
  · exact prime_2
  · exact prime_2
  · exact prime_3
  · exact prime_31
  · exact prime_107
  · exact prime_223
  · exact prime_4153
  · exact prime_430751
theorem prime_31757755568855353 : Prime 31757755568855353 := cert_prime cert_31757755568855353 parts_31757755568855353
theorem cert_9463 : certB 9463 3 [2, 3, 19, 83] = true := by decide +kernel
theorem parts_9463 : ∀ x ∈ ([2, 3, 19, 83] : List Nat), Prime x := by
  intro x hx
  simp only [List.mem_cons, List.not_mem_nil, or_false] at hx
  rcases hx with rfl | rfl | rfl | rfl
  · exact prime_2
  · exact prime_3
  · exact prime_19
  · exact prime_83
theorem prime_9463 : Prime 9463 := cert_prime cert_9463 parts_9463
theorem cert_37853 : certB 37853 2 [2, 2, 9463] = true := by decide +kernel
theorem parts_37853 : ∀ x ∈ ([2, 2, 9463] : List Nat), Prime x := by
  intro x hx
  simp only [List.mem_cons, List.not_mem_nil, or_false] at hx
  rcases hx with rfl | rfl | rfl
  · exact prime_2
  · exact prime_2
  · exact prime_9463
theorem prime_37853 : Prime 37853 := cert_prime cert_37853 parts_37853
theorem cert_75707 : certB 75707 2 [2, 37853] = true := by decide +kernel
theorem parts_75707 : ∀ x ∈ ([2, 37853] : List Nat), Prime x := by
  intro x hx
  simp only [List.mem_cons, List.not_mem_nil, or_false] at hx
  rcases hx with rfl | rfl
  · exact prime_2
  · exact prime_37853
theorem prime_75707 : Prime 75707 := cert_prime cert_75707 parts_75707
theorem cert_2437 : certB 2437 2 [2, 2, 3, 7, 29] = true := by decide +kernel
theorem parts_2437 : ∀ x ∈ ([2, 2, 3, 7, 29] : List Nat), Prime x := by
  intro x hx
  simp only [List.mem_cons, List.not_mem_nil, or_false] at hx
  rcases hx with rfl | rfl | rfl | rfl | rfl
  · exact prime_2
  · exact prime_2
  · exact prime_3
  · exact prime_7
  · exact prime_29
theorem prime_2437 : Prime 2437 := cert_prime cert_2437 parts_2437
theorem cert_419 : certB 419 2 [2, 11, 19] = true := by decide +kernel
theorem parts_419 : ∀ x ∈ ([2, 11, 19] : List Nat), Prime x := by
  intro x hx
  simp only [List.mem_cons, List.not_mem_nil, or_false] at hx
  rcases hx with rfl | rfl | rfl
  · exact prime_2
  · exact prime_11
  · exact prime_19
theorem prime_419 : Prime 419 := cert_prime cert_419 parts_419
theorem cert_569003 : certB 569003 2 [2, 7, 97, 419] = true := by decide +kernel
theorem parts_569003 : ∀ x ∈ ([2, 7, 97, 419] : List Nat), Prime x := by
  intro x hx
  simp only [List.mem_cons, List.not_mem_nil, or_false] at hx
  rcases hx with rfl | rfl | rfl | rfl
  · exact prime_2
  · exact prime_7
  · exact prime_97
  · exact prime_419
theorem prime_569003 : Prime 569003 := cert_prime cert_569003 parts_569003
theorem cert_2773320623 : certB 2773320623 5 [2, 2437, 569003] = true := by decide +kernel
theorem parts_2773320623 : ∀ x ∈ ([2, 2437, 569003] : List Nat), Prime x := by
  intro x hx
  simp only [List.mem_cons, List.not_mem_nil, or_false] at hx
  rcases hx with rfl | rfl | rfl
  · exact prime_2
  · exact prime_2437
  · exact prime_569003
theorem prime_2773320623 : Prime 2773320623 := cert_prime cert_2773320623 parts_2773320623
theorem cert_72106336199 : certB 72106336199 7 [2, 13, 2773320623] = true := by decide +kernel
theorem parts_72106336199 : ∀ x ∈ ([2, 13, 2773320623] : List Nat), Prime x := by
  intro x hx
  simp only [List.mem_cons, List.not_mem_nil, or_false] at hx
  rcases hx with rfl | rfl | rfl
  · exact prime_2
  · exact prime_13
  · exact prime_2773320623
theorem prime_72106336199 : Prime 72106336199 := cert_prime cert_72106336199 parts_72106336199
theorem cert_127 : certB 127 3 [2, 3, 3, 7] = true := by decide +kernel
theorem parts_127 : ∀ x ∈ ([2, 3, 3, 7] : List Nat), Prime x := by
  intro x hx
  simp only [List.mem_cons, List.not_mem_nil, or_false] at hx
  rcases hx with rfl | rfl | rfl | rfl
  · exact prime_2
  · exact prime_3
  · exact prime_3
  · exact prime_7
theorem prime_127 : Prime 127 := cert_prime cert_127 parts_127
theorem cert_103 : certB 103 5 [2, 3, 17] = true := by decide +kernel
theorem parts_103 : ∀ x ∈ ([2, 3, 17] : List Nat), Prime x := by
  intro x hx
  simp only [List.mem_cons, List.not_mem_nil, or_false] at hx
  rcases hx with rfl | rfl | rfl
  · exact prime_2
  · exact prime_3
  · exact prime_17
theorem prime_103 : Prime 103 := cert_prime cert_103 parts_103
theorem cert_991 : certB 991 6 [2, 3, 3, 5, 11] = true := by decide +kernel
theorem parts_991 : ∀ x ∈ ([2, 3, 3, 5, 11] : List Nat), Prime x := by
  intro x hx
  simp only [List.mem_cons, List.not_mem_nil, or_false] at hx
  rcases hx with rfl | rfl | rfl | rfl | rfl
  · exact prime_2
  · exact prime_3
  · exact prime_3
  · exact prime_5
  · exact prime_11
theorem prime_991 : Prime 991 := cert_prime cert_991 parts_991
theorem cert_8574133 : certB 8574133 2 [2, 2, 3, 7, 103, 991] = true := by decide +kernel
theorem parts_8574133 : ∀ x ∈ ([2, 2, 3, 7, 103, 991] : List Nat), Prime x := by
  intro x hx
  simp only [List.mem_cons, List.not_mem_nil, or_false] at hx
  rcases hx with rfl | rfl | rfl | rfl | rfl | rfl
  · exact prime_2
  · exact prime_2
  · exact prime_3
  · exact prime_7
  · exact prime_103
  · exact prime_991
theorem prime_8574133 : Prime 8574133 := cert_prime cert_8574133 parts_8574133
theorem cert_1919519569386763 : certB 1919519569386763 2 [2, 3, 7, 19, 47, 47, 127, 8574133] = true := by decide +kernel
theorem parts_1919519569386763 : ∀ x ∈ ([2, 3, 7, 19, 47, 47, 127, 8574133] : List Nat), Prime x := by
  intro x hx
  simp only [List.mem_cons, List.not_mem_nil, or_false] at hx
  rcases hx with rfl | rfl | rfl | rfl | rfl | rfl | rfl | rfl
  · exact prime_2
  · exact prime_3
  · exact prime_7
  · exact prime_19
  · exact prime_47
  · exact prime_47
  · exact prime_127
  · exact prime_8574133
theorem prime_1919519569386763 : Prime 1919519569386763 := cert_prime cert_1919519569386763 parts_1919519569386763
theorem cert_75445702479781427272750846543864801 : certB 75445702479781427272750846543864801 7 [2, 2, 2, 2, 2, 3, 3, 5, 5, 75707, 72106336199, 1919519569386763] = true := by decide +kernel
theorem parts_75445702479781427272750846543864801 : ∀ x ∈ ([2, 2, 2, 2, 2, 3, 3, 5, 5, 75707, 72106336199, 1919519569386763] : List Nat), Prime x := by
  intro x hx
  simp only [List.mem_cons, List.not_mem_nil, or_false] at hx
  rcases hx with rfl | rfl | rfl | rfl | rfl | rfl | rfl | rfl | rfl | rfl | rfl | rfl
  · exact prime_2
  · exact prime_2
  · exact prime_2
  · exact prime_2
  · exact prime_2
  · exact prime_3
  · exact prime_3
  · exact prime_5
  · exact prime_5
  · exact prime_75707
  · exact prime_72106336199
  · exact prime_1919519569386763
theorem prime_75445702479781427272750846543864801 : Prime 75445702479781427272750846543864801 := cert_prime cert_75445702479781427272750846543864801 parts_75445702479781427272750846543864801
theorem cert_74058212732561358302231226437062788676166966415465897661863160754340907 : certB 74058212732561358302231226437062788676166966415465897661863160754340907 2 [2, 3, 353, 57467, 132049, 1923133, 31757755568855353, 75445702479781427272750846543864801] = true := by decide +kernel
theorem parts_74058212732561358302231226437062788676166966415465897661863160754340907 : ∀ x ∈ ([2, 3, 353, 57467, 132049, 1923133, 31757755568855353, 75445702479781427272750846543864801] : List Nat), Prime x := by
  intro x hx
  simp only [List.mem_cons, List.not_mem_nil, or_false] at hx
  rcases hx with rfl | rfl | rfl | rfl | rfl | rfl | rfl | rfl
  · exact prime_2
  · exact prime_3
  · exact prime_353
  · exact prime_57467
  · exact prime_132049
  · exact prime_1923133
  · exact prime_31757755568855353
  · exact prime_75445702479781427272750846543864801
theorem prime_74058212732561358302231226437062788676166966415465897661863160754340907 : Prime 74058212732561358302231226437062788676166966415465897661863160754340907 := cert_prime cert_74058212732561358302231226437062788676166966415465897661863160754340907 parts_74058212732561358302231226437062788676166966415465897661863160754340907
theorem cert_57896044618658097711785492504343953926634992332820282019728792003956564819949 : certB 57896044618658097711785492504343953926634992332820282019728792003956564819949 2 [2, 2, 3, 65147, 74058212732561358302231226437062788676166966415465897661863160754340907] = true := by decide +kernel
theorem parts_57896044618658097711785492504343953926634992332820282019728792003956564819949 : ∀ x ∈ ([2, 2, 3, 65147, 74058212732561358302231226437062788676166966415465897661863160754340907] : List Nat), Prime x := by
  intro x hx
  simp only [List.mem_cons, List.not_mem_nil, or_false] at hx
  rcases hx with rfl | rfl | rfl | rfl | rfl
  · exact prime_2
  · exact prime_2
  · exact prime_3
  · exact prime_65147
  · exact prime_74058212732561358302231226437062788676166966415465897661863160754340907
theorem prime_57896044618658097711785492504343953926634992332820282019728792003956564819949 : Prime 57896044618658097711785492504343953926634992332820282019728792003956564819949 := cert_prime cert_57896044618658097711785492504343953926634992332820282019728792003956564819949 parts_57896044618658097711785492504343953926634992332820282019728792003956564819949
theorem cert_34123 : certB 34123 2 [2, 3, 11, 11, 47] = true := by decide +kernel
theorem parts_34123 : ∀ x ∈ ([2, 3, 11, 11, 47] : List Nat), Prime x := by
  intro x hx
  simp only [List.mem_cons, List.not_mem_nil, or_false] at hx
  rcases hx with rfl | rfl | rfl | rfl | rfl
  · exact prime_2
  · exact prime_3
  · exact prime_11
  · exact prime_11
  · exact prime_47
theorem prime_34123 : Prime 34123 := cert_prime cert_34123 parts_34123
theorem cert_409477 : certB 409477 2 [2, 2, 3, 34123] = true := by decide +kernel
theorem parts_409477 : ∀ x ∈ ([2, 2, 3, 34123] : List Nat), Prime x := by
  intro x hx
  simp only [List.mem_cons, List.not_mem_nil, or_false] at hx
  rcases hx with rfl | rfl | rfl | rfl
  · exact prime_2
  · exact prime_2
  · exact prime_3
  · exact prime_34123
theorem prime_409477 : Prime 409477 := cert_prime cert_409477 parts_409477
theorem cert_14741173 : certB 14741173 2 [2, 2, 3, 3, 409477] = true := by decide +kernel
theorem parts_14741173 : ∀ x ∈ ([2, 2, 3, 3, 409477] : List Nat), Prime x := by
  intro x hx
  simp only [List.mem_cons, List.not_mem_nil, or_false] at hx
  rcases hx with rfl | rfl | rfl | rfl | rfl
  · exact prime_2
  · exact prime_2
  · exact prime_3
  · exact prime_3
  · exact prime_409477
theorem prime_14741173 : Prime 14741173 := cert_prime cert_14741173 parts_14741173
theorem cert_58964693 : certB 58964693 2 [2, 2, 14741173] = true := by decide +kernel
theorem parts_58964693 : ∀ x ∈ ([2, 2, 14741173] : List Nat), Prime x := by
  intro x hx
  simp only [List.mem_cons, List.not_mem_nil, or_false] at hx
  rcases hx with rfl | rfl | rfl
  · exact prime_2
  · exact prime_2
  · exact prime_14741173
theorem prime_58964693 : Prime 58964693 := cert_prime cert_58964693 parts_58964693
theorem cert_30703 : certB 30703 3 [2, 3, 7, 17, 43] = true := by decide +kernel
theorem parts_30703 : ∀ x ∈ ([2, 3, 7, 17, 43] : List Nat), Prime x := by
  intro x hx
  simp only [List.mem_cons, List.not_mem_nil, or_false] at hx
  rcases hx with rfl | rfl | rfl | rfl | rfl
  · exact prime_2
  · exact prime_3
  · exact prime_7
  · exact prime_17
  · exact prime_43
theorem prime_30703 : Prime 30703 := cert_prime cert_30703 parts_30703
theorem cert_41081 : certB 41081 3 [2, 2, 2, 5, 13, 79] = true := by decide +kernel
theorem parts_41081 : ∀ x ∈ ([2, 2, 2, 5, 13, 79] : List Nat), Prime x := by
  intro x hx
  simp only [List.mem_cons, List.not_mem_nil, or_false] at hx
  rcases hx with rfl | rfl | rfl | rfl | rfl | rfl
  · exact prime_2
  · exact prime_2
  · exact prime_2
  · exact prime_5
  · exact prime_13
  · exact prime_79
theorem prime_41081 : Prime 41081 := cert_prime cert_41081 parts_41081
theorem cert_82163 : certB 82163 2 [2, 41081] = true := by decide +kernel
theorem parts_82163 : ∀ x ∈ ([2, 41081] : List Nat), Prime x := by
  intro x hx
  simp only [List.mem_cons, List.not_mem_nil, or_false] at hx
  rcases hx with rfl | rfl
  · exact prime_2
  · exact prime_41081
theorem prime_82163 : Prime 82163 := cert_prime cert_82163 parts_82163
theorem cert_22111 : certB 22111 6 [2, 3, 5, 11, 67] = true := by decide +kernel
theorem parts_22111 : ∀ x ∈ ([2, 3, 5, 11, 67] : List Nat), Prime x := by
  intro x hx
  simp only [List.mem_cons, List.not_mem_nil, or_false] at hx
  rcases hx with rfl | rfl | rfl | rfl | rfl
  · exact prime_2
  · exact prime_3
  · exact prime_5
  · exact prime_11
  · exact prime_67
theorem prime_22111 : Prime 22111 := cert_prime cert_22111 parts_22111
theorem cert_132667 : certB 132667 5 [2, 3, 22111] = true := by decide +kernel
theorem parts_132667 : ∀ x ∈ ([2, 3, 22111] : List Nat), Prime x := by
  intro x hx
  simp only [List.mem_cons, List.not_mem_nil, or_false] at hx
  rcases hx with rfl | rfl | rfl
  · exact prime_2
  · exact prime_3
  · exact prime_22111
theorem prime_132667 : Prime 132667 := cert_prime cert_132667 parts_132667
theorem cert_17231 : certB 17231 13 [2, 5, 1723] = true := by decide +kernel
theorem parts_17231 : ∀ x ∈ ([2, 5, 1723] : List Nat), Prime x := by
  intro x hx
  simp only [List.mem_cons, List.not_mem_nil, or_false] at hx
  rcases hx with rfl | rfl | rfl
  · exact prime_2
  · exact prime_5
  · exact prime_1723
theorem prime_17231 : Prime 17231 := cert_prime cert_17231 parts_17231
theorem cert_137849 : certB 137849 3 [2, 2, 2, 17231] = true := by decide +kernel
theorem parts_137849 : ∀ x ∈ ([2, 2, 2, 17231] : List Nat), Prime x := by
  intro x hx
  simp only [List.mem_cons, List.not_mem_nil, or_false] at hx
  rcases hx with rfl | rfl | rfl | rfl
  · exact prime_2
  · exact prime_2
  · exact prime_2
  · exact prime_17231
theorem prime_137849 : Prime 137849 := cert_prime cert_137849 parts_137849
theorem cert_3044861653679985063343 : certB 3044861653679985063343 5 [2, 3, 11, 30703, 82163, 132667, 137849] = true := by decide +kernel
theorem parts_3044861653679985063343 : ∀ x ∈ ([2, 3, 11, 30703, 82163, 132667, 137849] : List Nat), Prime x := by
  intro x hx
  simp only [List.mem_cons, List.not_mem_nil, or_false] at hx
  rcases hx with rfl | rfl | rfl | rfl | rfl | rfl | rfl
  · exact prime_2
  · exact prime_3
  · exact prime_11
  · exact prime_30703
  · exact prime_82163
  · exact prime_132667
  · exact prime_137849
theorem prime_3044861653679985063343 : Prime 3044861653679985063343 := cert_prime cert_3044861653679985063343 parts_3044861653679985063343
theorem cert_198211423230930754013084525763697 : certB 198211423230930754013084525763697 5 [2, 2, 2, 2, 3, 23, 58964693, 3044861653679985063343] = true := by decide +kernel
theorem parts_198211423230930754013084525763697 : ∀ x ∈ ([2, 2, 2, 2, 3, 23, 58964693, 3044861653679985063343] : List Nat), Prime x := by
  intro x hx
  simp only [List.mem_cons, List.not_mem_nil, or_false] at hx
  rcases hx with rfl | rfl | rfl | rfl | rfl | rfl | rfl | rfl
  · exact prime_2
  · exact prime_2
  · exact prime_2
  · exact prime_2
  · exact prime_3
  · exact prime_23
  · exact prime_58964693
  · exact prime_3044861653679985063343
theorem prime_198211423230930754013084525763697 : Prime 198211423230930754013084525763697 := cert_prime cert_198211423230930754013084525763697 parts_198211423230930754013084525763697
theorem cert_269 : certB 269 2 [2, 2, 67] = true := by decide +kernel
theorem parts_269 : ∀ x ∈ ([2, 2, 67] : List Nat), Prime x := by
  intro x hx
  simp only [List.mem_cons, List.not_mem_nil, or_false] at hx
  rcases hx with rfl | rfl | rfl
  · exact prime_2
  · exact prime_2
  · exact prime_67
theorem prime_269 : Prime 269 := cert_prime cert_269 parts_269
theorem cert_307 : certB 307 5 [2, 3, 3, 17] = true := by decide +kernel
theorem parts_307 : ∀ x ∈ ([2, 3, 3, 17] : List Nat), Prime x := by
  intro x hx
  simp only [List.mem_cons, List.not_mem_nil, or_false] at hx
  rcases hx with rfl | rfl | rfl | rfl
  · exact prime_2
  · exact prime_3
  · exact prime_3
  · exact prime_17
theorem prime_307 : Prime 307 := cert_prime cert_307 parts_307
theorem cert_113 : certB 113 3 [2, 2, 2, 2, 7] = true := by decide +kernel
theorem parts_113 : ∀ x ∈ ([2, 2, 2, 2, 7] : List Nat), Prime x := by
  intro x hx
  simp only [List.mem_cons, List.not_mem_nil, or_false] at hx
  rcases hx with rfl | rfl | rfl | rfl | rfl
  · exact prime_2
  · exact prime_2
  · exact prime_2
  · exact prime_2
  · exact prime_7
theorem prime_113 : Prime 113 := cert_prime cert_113 parts_113
theorem cert_2939 : certB 2939 2 [2, 13, 113] = true := by decide +kernel
theorem parts_2939 : ∀ x ∈ ([2, 13, 113] : List Nat), Prime x := by
  intro x hx
  simp only [List.mem_cons, List.not_mem_nil, or_false] at hx
  rcases hx with rfl | rfl | rfl
  · exact prime_2
  · exact prime_13
  · exact prime_113
theorem prime_2939 : Prime 2939 := cert_prime cert_2939 parts_2939
theorem cert_5879 : certB 5879 11 [2, 2939] = true := by decide +kernel
theorem parts_5879 : ∀ x ∈ ([2, 2939] : List Nat), Prime x := by
  intro x hx
  simp only [List.mem_cons, List.not_mem_nil, or_false] at hx
  rcases hx with rfl | rfl
  · exact prime_2
  · exact prime_2939
theorem prime_5879 : Prime 5879 := cert_prime cert_5879 parts_5879
theorem cert_292386187 : certB 292386187 2 [2, 3, 3, 3, 3, 307, 5879] = true := by decide +kernel
theorem parts_292386187 : ∀ x ∈ ([2, 3, 3, 3, 3, 307, 5879] : List Nat), Prime x := by
  intro x hx
  simp only [List.mem_cons, List.not_mem_nil, or_false] at hx
  rcases hx with rfl | rfl | rfl | rfl | rfl | rfl | rfl
  · exact prime_2
  · exact prime_3
  · exact prime_3
  · exact prime_3
  · exact prime_3
  · exact prime_307
  · exact prime_5879
theorem prime_292386187 : Prime 292386187 := cert_prime cert_292386187 parts_292386187
theorem cert_213441916511 : certB 213441916511 13 [2, 5, 73, 292386187] = true := by decide +kernel
theorem parts_213441916511 : ∀ x ∈ ([2, 5, 73, 292386187] : List Nat), Prime x := by
  intro x hx
  simp only [List.mem_cons, List.not_mem_nil, or_false] at hx
  rcases hx with rfl | rfl | rfl | rfl
  · exact prime_2
  · exact prime_5
  · exact prime_73
  · exact prime_292386187
theorem prime_213441916511 : Prime 213441916511 := cert_prime cert_213441916511 parts_213441916511
theorem cert_1361 : certB 1361 3 [2, 2, 2, 2, 5, 17] = true := by decide +kernel
theorem parts_1361 : ∀ x ∈ ([2, 2, 2, 2, 5, 17] : List Nat), Prime x := by
  intro x hx
  simp only [List.mem_cons, List.not_mem_nil, or_false] at hx
  rcases hx with rfl | rfl | rfl | rfl | rfl | rfl
  · exact prime_2
  · exact prime_2
  · exact prime_2
  · exact prime_2
  · exact prime_5
  · exact prime_17
theorem prime_1361 : Prime 1361 := cert_prime cert_1361 parts_1361
theorem cert_2851 : certB 2851 2 [2, 3, 5, 5, 19] = true := by decide +kernel
theorem parts_2851 : ∀ x ∈ ([2, 3, 5, 5, 19] : List Nat), Prime x := by
  intro x hx
  simp only [List.mem_cons, List.not_mem_nil, or_false] at hx
  rcases hx with rfl | rfl | rfl | rfl | rfl
  · exact prime_2
  · exact prime_3
  · exact prime_5
  · exact prime_5
  · exact prime_19
theorem prime_2851 : Prime 2851 := cert_prime cert_2851 parts_2851
theorem cert_3797 : certB 3797 2 [2, 2, 13, 73] = true := by decide +kernel
theorem parts_3797 : ∀ x ∈ ([2, 2, 13, 73] : List Nat), Prime x := by
  intro x hx
  simp only [List.mem_cons, List.not_mem_nil, or_false] at hx
  rcases hx with rfl | rfl | rfl | rfl
  · exact prime_2
  · exact prime_2
  · exact prime_13
  · exact prime_73
theorem prime_3797 : Prime 3797 := cert_prime cert_3797 parts_3797
theorem cert_531581 : certB 531581 2 [2, 2, 5, 7, 3797] = true := by decide +kernel
theorem parts_531581 : ∀ x ∈ ([2, 2, 5, 7, 3797] : List Nat), Prime x := by
  intro x hx
  simp only [List.mem_cons, List.not_mem_nil, or_false] at hx
  rcases hx with rfl | rfl | rfl | rfl | rfl
  · exact prime_2
  · exact prime_2
  · exact prime_5
  · exact prime_7
  · exact prime_3797
theorem prime_531581 : Prime 531581 := cert_prime cert_531581 parts_531581
theorem cert_2551 : certB 2551 6 [2, 3, 5, 5, 17] = true := by decide +kernel
theorem parts_2551 : ∀ x ∈ ([2, 3, 5, 5, 17] : List Nat), Prime x := by
  intro x hx
  simp only [List.mem_cons, List.not_mem_nil, or_false] at hx
  rcases hx with rfl | rfl | rfl | rfl | rfl
  · exact prime_2
  · exact prime_3
  · exact prime_5
  · exact prime_5
  · exact prime_17
theorem prime_2551 : Prime 2551 := cert_prime cert_2551 parts_2551
theorem cert_1224481 : certB 1224481 13 [2, 2, 2, 2, 2, 3, 5, 2551] = true := by decide +kernel
theorem parts_1224481 : ∀ x ∈ ([2, 2, 2, 2, 2, 3, 5, 2551] : List Nat), Prime x := by
  intro x hx
  simp only [List.mem_cons, List.not_mem_nil, or_false] at hx
  rcases hx with rfl | rfl | rfl | rfl | rfl | rfl | rfl | rfl
  · exact prime_2
  · exact prime_2
  · exact prime_2
  · exact prime_2
  · exact prime_2
  · exact prime_3
  · exact prime_5
  · exact prime_2551
theorem prime_1224481 : Prime 1224481 := cert_prime cert_1224481 parts_1224481
theorem cert_1257559732178653 : certB 1257559732178653 2 [2, 2, 3, 7, 23, 531581, 1224481] = true := by decide +kernel
theorem parts_1257559732178653 : ∀ x ∈ ([2, 2, 3, 7, 23, 531581, 1224481] : List Nat), Prime x := by
  intro x hx
  simp only [List.mem_cons, List.not_mem_nil, or_false] at hx
  rcases hx with rfl | rfl | rfl | rfl | rfl | rfl | rfl
  · exact prime_2
  · exact prime_2
  · exact prime_3
  · exact prime_7
  · exact prime_23
  · exact prime_531581
  · exact prime_1224481
theorem prime_1257559732178653 : Prime 1257559732178653 := cert_prime cert_1257559732178653 parts_1257559732178653
theorem cert_4434155615661930479 : certB 4434155615661930479 17 [2, 41, 43, 1257559732178653] = true := by decide +kernel
theorem parts_4434155615661930479 : ∀ x ∈ ([2, 41, 43, 1257559732178653] : List Nat), Prime x := by
  intro x hx
  simp only [List.mem_cons, List.not_mem_nil, or_false] at hx
  rcases hx with rfl | rfl | rfl | rfl
  · exact prime_2
  · exact prime_41
  · exact prime_43
  · exact prime_1257559732178653
theorem prime_4434155615661930479 : Prime 4434155615661930479 := cert_prime cert_4434155615661930479 parts_4434155615661930479
theorem cert_172054593956031949258510691 : certB 172054593956031949258510691 2 [2, 5, 1361, 2851, 4434155615661930479] = true := by decide +kernel
theorem parts_172054593956031949258510691 : ∀ x ∈ ([2, 5, 1361, 2851, 4434155615661930479] : List Nat), Prime x := by
  intro x hx
  simp only [List.mem_cons, List.not_mem_nil, or_false] at hx
  rcases hx with rfl | rfl | rfl | rfl | rfl
  · exact prime_2
  · exact prime_5
  · exact prime_1361
  · exact prime_2851
  · exact prime_4434155615661930479
theorem prime_172054593956031949258510691 : Prime 172054593956031949258510691 := cert_prime cert_172054593956031949258510691 parts_172054593956031949258510691
theorem cert_19757330305831588566944191468367130476339 : certB 19757330305831588566944191468367130476339 2 [2, 269, 213441916511, 172054593956031949258510691] = true := by decide +kernel
theorem parts_19757330305831588566944191468367130476339 : ∀ x ∈ ([2, 269, 213441916511, 172054593956031949258510691] : List Nat), Prime x := by
  intro x hx
  simp only [List.mem_cons, List.not_mem_nil, or_false] at hx
  rcases hx with rfl | rfl | rfl | rfl
  · exact prime_2
  · exact prime_269
  · exact prime_213441916511
  · exact prime_172054593956031949258510691
theorem prime_19757330305831588566944191468367130476339 : Prime 19757330305831588566944191468367130476339 := cert_prime cert_19757330305831588566944191468367130476339 parts_19757330305831588566944191468367130476339
theorem cert_276602624281642239937218680557139826668747 : certB 276602624281642239937218680557139826668747 2 [2, 7, 19757330305831588566944191468367130476339] = true := by decide +kernel
theorem parts_276602624281642239937218680557139826668747 : ∀ x ∈ ([2, 7, 19757330305831588566944191468367130476339] : List Nat), Prime x := by
  intro x hx
  simp only [List.mem_cons, List.not_mem_nil, or_false] at hx
  rcases hx with rfl | rfl | rfl
  · exact prime_2
  · exact prime_7
  · exact prime_19757330305831588566944191468367130476339
theorem prime_276602624281642239937218680557139826668747 : Prime 276602624281642239937218680557139826668747 := cert_prime cert_276602624281642239937218680557139826668747 parts_276602624281642239937218680557139826668747
theorem cert_7237005577332262213973186563042994240857116359379907606001950938285454250989 : certB 7237005577332262213973186563042994240857116359379907606001950938285454250989 2 [2, 2, 3, 11, 198211423230930754013084525763697, 276602624281642239937218680557139826668747] = true := by decide +kernel
theorem parts_7237005577332262213973186563042994240857116359379907606001950938285454250989 : ∀ x ∈ ([2, 2, 3, 11, 198211423230930754013084525763697, 276602624281642239937218680557139826668747] : List Nat), Prime x := by
  intro x hx
  simp only [List.mem_cons, List.not_mem_nil, or_false] at hx
  rcases hx with rfl | rfl | rfl | rfl | rfl | rfl
  · exact prime_2
  · exact prime_2
  · exact prime_3
  · exact prime_11
  · exact prime_198211423230930754013084525763697
  · exact prime_276602624281642239937218680557139826668747
theorem prime_7237005577332262213973186563042994240857116359379907606001950938285454250989 : Prime 7237005577332262213973186563042994240857116359379907606001950938285454250989 := cert_prime cert_7237005577332262213973186563042994240857116359379907606001950938285454250989 parts_7237005577332262213973186563042994240857116359379907606001950938285454250989
theorem ord_P : IsOrd 57896044618658097711785492504343953926634992332820282019728792003956564819949 2 (57896044618658097711785492504343953926634992332820282019728792003956564819949 - 1) := cert_ord cert_57896044618658097711785492504343953926634992332820282019728792003956564819949 parts_57896044618658097711785492504343953926634992332820282019728792003956564819949
theorem prime_P : Prime 57896044618658097711785492504343953926634992332820282019728792003956564819949 := prime_57896044618658097711785492504343953926634992332820282019728792003956564819949
theorem prime_L : Prime 7237005577332262213973186563042994240857116359379907606001950938285454250989 := prime_7237005577332262213973186563042994240857116359379907606001950938285454250989
end Go.Proofs.Ytjiiccainfhgkaa
namespace Go.Proofs.Ytjiiccainfhgkaa
set_option linter.unusedVariables false
set_option linter.unusedSectionVars false
variable {n : Nat} [NeZero n] {K : Fl n} (E : Ed K)
instance Ed.onDec (p : P2 n) : Decidable (E.on p) := by unfold Ed.on; infer_instance
def Ed.col (x : Fin n) : List (P2 n) := ((List.finRange n).filter fun y => decide (E.on ⟨x, y⟩)).map fun y => ⟨x, y⟩
def Ed.pts : List (P2 n) := (List.finRange n).flatMap E.col
theorem Ed.mem_pts {p : P2 n} : p ∈ E.pts ↔ E.on p := by
  unfold Ed.pts Ed.col
  simp only [List.mem_flatMap, List.mem_map, List.mem_filter, List.mem_finRange, true_and, decide_eq_true_iff]
  constructor
  · rintro ⟨x, y, h, rfl⟩; exact h
  · intro h; exact ⟨p.x, p.y, h, rfl⟩
theorem Ed.nodup_pts : E.pts.Nodup := by
  unfold Ed.pts List.Nodup
  rw [List.pairwise_flatMap]
  refine ⟨fun x _ => ?_, ?_⟩
  · unfold Ed.col
    rw [List.pairwise_map]
    exact (List.Pairwise.filter _ (List.nodup_finRange n)).imp fun h he => h (congrArg P2.y he)
  · refine (List.nodup_finRange n).imp fun {a b} h x hx y hy he => ?_
    unfold Ed.col at hx hy
    simp only [List.mem_map] at hx hy
    obtain ⟨_, _, rfl⟩ := hx
    obtain ⟨_, _, rfl⟩ := hy
    exact h (congrArg P2.x he)
theorem sq_two (K : Fl n) {r y : Fin n} (h : y * y = r * r) : y = r ∨ y = 0 - r := by
  have h2 : (y - r) * (y + r) = 0 := by grind
  rcases K.mul_zero _ _ h2 with h1 | h1
  · left; clear h h2; grind
  · right; clear h h2; grind
theorem one_sub_ne_id {d x i : Fin n} (h : 1 - d * x * x = 0) (hi : x * i = 1) : i * i = d := by grind
theorem Ed.one_sub_ne (x : Fin n) : 1 - E.d * x * x ≠ 0 := fun h => by
  have hx : x ≠ 0 := fun h0 => by
    rw [h0] at h
    exact K.one_ne (by grind)
  exact E.nd _ (one_sub_ne_id h (K.mul_inv _ hx))
theorem same_sq_id {a d x y r : Fin n} (h : a * x * x + y * y = 1 + d * x * x * y * y) (k : a * x * x + r * r = 1 + d * x * x * r * r) : (1 - d * x * x) * (y * y - r * r) = 0 := by grind
theorem Ed.same_sq {x y r : Fin n} (h : E.on ⟨x, y⟩) (k : E.on ⟨x, r⟩) : y * y = r * r := by
  rcases K.mul_zero _ _ (same_sq_id h k) with h1 | h1
  · exact absurd h1 (E.one_sub_ne x)
  · exact sub_zero_eq h1
theorem Ed.col_two (x : Fin n) : (E.col x).length ≤ 2 := by
  unfold Ed.col
  rw [List.length_map]
  have nd := List.Pairwise.filter (fun y => decide (E.on ⟨x, y⟩)) (List.nodup_finRange n)
  have ho : ∀ y ∈ (List.finRange n).filter (fun y => decide (E.on ⟨x, y⟩)), E.on ⟨x, y⟩ := fun y hy => by
    rw [List.mem_filter] at hy; exact of_decide_eq_true hy.2
  generalize (List.finRange n).filter (fun y => decide (E.on ⟨x, y⟩)) = l at *
  cases l with
  | nil => simp
  | cons r l =>
    have hs : (r :: l) ⊆ [r, 0 - r] := fun y hy => by
      rcases sq_two K (E.same_sq (ho y hy) (ho r List.mem_cons_self)) with h | h <;> simp [h]
    exact List.Nodup.length_le_of_subset nd hs
theorem flat_two {α β : Type} {f : α → List β} (h : ∀ x, (f x).length ≤ 2) : ∀ l : List α, (l.flatMap f).length ≤ 2 * l.length
  | [] => by simp
  | x :: l => by
    have := flat_two h l
    have := h x
    rw [List.flatMap_cons, List.length_append, List.length_cons]
    omega
theorem Ed.pts_le : E.pts.length ≤ 2 * n := by
  have := flat_two E.col_two (List.finRange n)
  rwa [List.length_finRange] at this
theorem Ed.pts_pos : 0 < E.pts.length := List.length_pos_of_mem (E.mem_pts.2 E.zero_on)
/-! ### The sum of all points -/
def Ed.total : List (P2 n) → P2 n
  | [] => P2.zero
  | p :: l => E.add p (Ed.total l)
theorem Ed.total_on : ∀ l : List (P2 n), (∀ p ∈ l, E.on p) → E.on (E.total l)
  | [], _ => E.zero_on
  | p :: l, h => E.add_on (h p List.mem_cons_self) (Ed.total_on l fun q hq => h q (List.mem_cons_of_mem _ hq))
theorem Ed.left_comm {p q r : P2 n} (hp : E.on p) (hq : E.on q) (hr : E.on r) : E.add p (E.add q r) = E.add q (E.add p r) := by
  rw [← E.add_assoc hp hq hr, E.add_comm p q, E.add_assoc hq hp hr]
theorem Ed.total_perm {l m : List (P2 n)} (h : l.Perm m) : (∀ p ∈ l, E.on p) → E.total l = E.total m := by
  induction h with
  | nil => intro _; rfl
  | cons x h ih =>
    intro ho
    show E.add x _ = E.add x _
    rw [ih fun q hq => ho q (List.mem_cons_of_mem _ hq)]
  | swap x y l =>
    intro ho
    exact E.left_comm (ho y (by simp)) (ho x (by simp)) (E.total_on l fun q hq => ho q (by simp [hq]))
  | trans h1 h2 i1 i2 =>
    intro ho
    rw [i1 ho, i2 fun q hq => ho q (h1.mem_iff.2 hq)]
theorem Ed.total_map {P : P2 n} (hP : E.on P) : ∀ l : List (P2 n), (∀ p ∈ l, E.on p) → E.total (l.map (E.add P)) = E.add (E.smul l.length P) (E.total l)
  | [], _ => (E.add_zero E.zero_on).symm
  | p :: l, h => by
    have ho := fun q hq => h q (List.mem_cons_of_mem p hq)
    have ih := Ed.total_map hP l ho
    show E.add (E.add P p) (E.total (l.map (E.add P))) = E.add (E.add (E.smul l.length P) P) (E.add p (E.total l))
    rw [ih, E.add_four hP (h p List.mem_cons_self) (E.smul_on hP _) (E.total_on l ho), E.add_comm P (E.smul _ P)]
theorem Ed.add_left_inj {P p q : P2 n} (hP : E.on P) (hp : E.on p) (hq : E.on q) (h : E.add P p = E.add P q) : p = q :=
  E.cancel_right hp hq hP (by rw [E.add_comm p, E.add_comm q]; exact h)
theorem Ed.shifted {P : P2 n} (hP : E.on P) : (E.pts.map (E.add P)).Perm E.pts := by
  have hnd : (E.pts.map (E.add P)).Nodup := by
    unfold List.Nodup
    rw [List.pairwise_map]
    exact E.nodup_pts.imp_of_mem fun {a b} ha hb h he => h (E.add_left_inj hP (E.mem_pts.1 ha) (E.mem_pts.1 hb) he)
  rw [List.perm_ext_iff_of_nodup hnd E.nodup_pts]
  intro a
  rw [List.mem_map, E.mem_pts]
  constructor
  · rintro ⟨p, hp, rfl⟩
    exact E.add_on hP (E.mem_pts.1 hp)
  · intro ha
    refine ⟨E.add P.neg a, E.mem_pts.2 (E.add_on (E.neg_on hP) ha), ?_⟩
    rw [← E.add_assoc hP (E.neg_on hP) ha, E.add_neg hP, E.zero_add ha]
theorem Ed.lagrange {P : P2 n} (hP : E.on P) : E.smul E.pts.length P = P2.zero := by
  have ho : ∀ p ∈ E.pts, E.on p := fun p h => E.mem_pts.1 h
  have h1 := E.total_map hP E.pts ho
  have h2 := E.total_perm (E.shifted hP) (fun p h => by
    rw [List.mem_map] at h
    obtain ⟨q, hq, rfl⟩ := h
    exact E.add_on hP (ho q hq))
  have ht := E.total_on E.pts ho
  refine E.cancel_right (E.smul_on hP _) E.zero_on ht ?_
  rw [E.zero_add ht, ← h1, h2]
/-! ### How many there are -/
theorem Ed.smul_mul_zero {P : P2 n} (hP : E.on P) {j : Nat} (h : E.smul j P = P2.zero) (k : Nat) : E.smul (k * j) P = P2.zero := by
  rw [← E.smul_smul hP, h, E.smul_zero_pt]
theorem Ed.smul_mod {P : P2 n} (hP : E.on P) {j : Nat} (h : E.smul j P = P2.zero) (k : Nat) : E.smul (k % j) P = E.smul k P := by
  have e : k = k / j * j + k % j := by rw [Nat.mul_comm]; exact (Nat.div_add_mod k j).symm
  have : E.smul k P = E.smul (k / j * j + k % j) P := by rw [← e]
  rw [this, E.smul_add hP, E.smul_mul_zero hP h, E.zero_add (E.smul_on hP _)]
theorem Ed.smul_gcd {P : P2 n} (hP : E.on P) (j k : Nat) : E.smul j P = P2.zero → E.smul k P = P2.zero → E.smul (Nat.gcd j k) P = P2.zero := by
  induction j, k using Nat.gcd.induction with
  | H0 k => intro _ h; rw [Nat.gcd_zero_left]; exact h
  | H1 j k hj ih =>
    intro h1 h2
    rw [Nat.gcd_rec]
    exact ih (by rw [E.smul_mod hP h1]; exact h2) h1
/-- What is 0 modulo a prime only: whose so-manieth is Zero. -/
theorem Ed.smul_prime {P : P2 n} (hP : E.on P) {L : Nat} (hL : Prime L) (h : E.smul L P = P2.zero) (hne : P ≠ P2.zero) (k : Nat) : E.smul k P = P2.zero ↔ k % L = 0 := by
  constructor
  · intro hk
    refine Nat.mod_eq_zero_of_dvd (Classical.byContradiction fun hd => hne ?_)
    have := E.smul_gcd hP k L hk h
    rwa [hL.coprime hd, E.smul_one hP] at this
  · intro hk
    rw [← E.smul_mod hP h, hk]; rfl
theorem Ed.eight {T : P2 n} (hT : E.on T) (h8 : E.smul 8 T = P2.zero) (h4 : E.smul 4 T ≠ P2.zero) {k : Nat} (hk : E.smul k T = P2.zero) : 8 ∣ k := by
  have hm : E.smul (k % 8) T = P2.zero := by rw [E.smul_mod hT h8]; exact hk
  have hlt : k % 8 < 8 := Nat.mod_lt _ (by decide)
  have key : ∀ j, j < 8 → j ≠ 0 → E.smul j T = P2.zero → False := by
    intro j hj h0 hz
    have g := E.smul_gcd hT j 8 hz h8
    have hg : ∀ j, j < 8 → j ≠ 0 → Nat.gcd j 8 ∣ 4 := by decide
    obtain ⟨c, hc⟩ := hg j hj h0
    exact h4 (by rw [hc, Nat.mul_comm]; exact E.smul_mul_zero hT g c)
  exact Nat.dvd_of_mod_eq_zero (Classical.byContradiction fun h0 => key _ hlt h0 hm)
theorem Ed.order {B T : P2 n} {L : Nat} (hL : Prime L) (hB : E.on B) (hB0 : E.smul L B = P2.zero) (hB1 : B ≠ P2.zero) (hT : E.on T) (h8 : E.smul 8 T = P2.zero) (h4 : E.smul 4 T ≠ P2.zero) (hc : Nat.Coprime 8 L) (hbig : 2 * n < 16 * L) {P : P2 n} (hP : E.on P) : E.smul (8 * L) P = P2.zero := by
  have d1 : 8 ∣ E.pts.length := E.eight hT h8 h4 (E.lagrange hT)
  have d2 : L ∣ E.pts.length := Nat.dvd_of_mod_eq_zero ((E.smul_prime hB hL hB0 hB1 _).1 (E.lagrange hB))
  obtain ⟨c, h⟩ := Nat.Coprime.mul_dvd_of_dvd_of_dvd hc d1 d2
  have hle := E.pts_le
  have hpos := E.pts_pos
  have hl := E.lagrange hP
  have hL0 := hL.pos
  have h1 : c = 1 := by
    have a : c < 2 := by
      refine Nat.lt_of_not_le fun h2 => ?_
      have := Nat.mul_le_mul_left (8 * L) h2
      omega
    have b : c ≠ 0 := fun h0 => by rw [h0, Nat.mul_zero] at h; omega
    omega
  rw [h, h1, Nat.mul_one] at hl
  exact hl
end Go.Proofs.Ytjiiccainfhgkaa
