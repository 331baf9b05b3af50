/- Mix: it comes back, it goes with xor, four times it is nothing; at least five of eight bytes are no nought. Printed by genmds.py. -/
import Derived.Test.YthgfglkncmekmabColumn
namespace Go.Proofs.Ythgfglkncmekmab
set_option linter.unusedSimpArgs false
set_option linter.unusedVariables false
def col4 (a b c d x y z u : Nat) : Nat := gmul a x ^^^ gmul b y ^^^ gmul c z ^^^ gmul d u
theorem col4_lt {a b c d : Nat} (x y z u : Nat) (ha : a < 256) (hb : b < 256) (hc : c < 256) (hd : d < 256) : col4 a b c d x y z u < 256 :=
  xor_lt (xor_lt (xor_lt (gmul_lt x ha) (gmul_lt y hb)) (gmul_lt z hc)) (gmul_lt u hd)
theorem gmul_col4 {m a b c d x y z u : Nat} (hm : m < 256) (ha : a < 256) (hb : b < 256) (hc : c < 256) (hd : d < 256) (hx : x < 256) (hy : y < 256) (hz : z < 256) (hu : u < 256) :
    gmul m (col4 a b c d x y z u) = col4 (gmul m a) (gmul m b) (gmul m c) (gmul m d) x y z u := by
  unfold col4
  rw [gmul_xor_right, gmul_xor_right, gmul_xor_right, gmul_assoc hm ha hx, gmul_assoc hm hb hy, gmul_assoc hm hc hz, gmul_assoc hm hd hu]
theorem col4_add {a b c d a' b' c' d' : Nat} (x y z u : Nat) (ha : a < 256) (hb : b < 256) (hc : c < 256) (hd : d < 256) (ha' : a' < 256) (hb' : b' < 256) (hc' : c' < 256) (hd' : d' < 256) :
    col4 a b c d x y z u ^^^ col4 a' b' c' d' x y z u = col4 (a ^^^ a') (b ^^^ b') (c ^^^ c') (d ^^^ d') x y z u := by
  unfold col4
  rw [gmul_xor_left x ha ha', gmul_xor_left y hb hb', gmul_xor_left z hc hc', gmul_xor_left u hd hd']
  ac_rfl
theorem col4_xor (a b c d x y z u x' y' z' u' : Nat) : col4 a b c d (x ^^^ x') (y ^^^ y') (z ^^^ z') (u ^^^ u') = col4 a b c d x y z u ^^^ col4 a b c d x' y' z' u' := by
  unfold col4
  rw [gmul_xor_right, gmul_xor_right, gmul_xor_right, gmul_xor_right]
  ac_rfl
theorem col4_rot (a b c d x y z u : Nat) : col4 a b c d x y z u = col4 d a b c u x y z := by unfold col4; ac_rfl
theorem comp {p q r s a b c d x y z u : Nat} (hp : p < 256) (hq : q < 256) (hr : r < 256) (hs : s < 256) (ha : a < 256) (hb : b < 256) (hc : c < 256) (hd : d < 256) (hx : x < 256) (hy : y < 256) (hz : z < 256) (hu : u < 256) :
    col4 p q r s (col4 a b c d x y z u) (col4 a b c d y z u x) (col4 a b c d z u x y) (col4 a b c d u x y z) =
      col4 (gmul p a ^^^ gmul q d ^^^ gmul r c ^^^ gmul s b) (gmul p b ^^^ gmul q a ^^^ gmul r d ^^^ gmul s c) (gmul p c ^^^ gmul q b ^^^ gmul r a ^^^ gmul s d) (gmul p d ^^^ gmul q c ^^^ gmul r b ^^^ gmul s a) x y z u := by
  have e : col4 p q r s (col4 a b c d x y z u) (col4 a b c d y z u x) (col4 a b c d z u x y) (col4 a b c d u x y z) = gmul p (col4 a b c d x y z u) ^^^ gmul q (col4 a b c d y z u x) ^^^ gmul r (col4 a b c d z u x y) ^^^ gmul s (col4 a b c d u x y z) := rfl
  have P : ∀ {m t : Nat}, m < 256 → gmul m t < 256 := fun h => gmul_lt _ h
  rw [e, gmul_col4 hp ha hb hc hd hx hy hz hu, gmul_col4 hq ha hb hc hd hy hz hu hx, gmul_col4 hr ha hb hc hd hz hu hx hy, gmul_col4 hs ha hb hc hd hu hx hy hz,
    col4_rot _ _ _ _ y z u x, col4_rot _ _ _ _ z u x y, col4_rot _ _ _ _ y z u x, col4_rot _ _ _ _ u x y z, col4_rot _ _ _ _ z u x y, col4_rot _ _ _ _ y z u x,
    col4_add _ _ _ _ (P hp) (P hp) (P hp) (P hp) (P hq) (P hq) (P hq) (P hq),
    col4_add _ _ _ _ (xor_lt (P hp) (P hq)) (xor_lt (P hp) (P hq)) (xor_lt (P hp) (P hq)) (xor_lt (P hp) (P hq)) (P hr) (P hr) (P hr) (P hr),
    col4_add _ _ _ _ (xor_lt (xor_lt (P hp) (P hq)) (P hr)) (xor_lt (xor_lt (P hp) (P hq)) (P hr)) (xor_lt (xor_lt (P hp) (P hq)) (P hr)) (xor_lt (xor_lt (P hp) (P hq)) (P hr)) (P hs) (P hs) (P hs) (P hs)]
theorem colf_eq (b c : Nat → Nat) (i : Nat) : colf b c i = col4 (b 0) (b 1) (b 2) (b 3) (c (i % 4)) (c ((i + 1) % 4)) (c ((i + 2) % 4)) (c ((i + 3) % 4)) := by
  unfold colf col4
  simp only [part, Nat.zero_xor, Nat.add_zero]
theorem colf_lt {b : Nat → Nat} (hb : ∀ j, b j < 256) (c : Nat → Nat) (i : Nat) : colf b c i < 256 := by
  rw [colf_eq]; exact col4_lt _ _ _ _ (hb 0) (hb 1) (hb 2) (hb 3)
theorem colf_congr {b c c' : Nat → Nat} (h : ∀ j, j < 4 → c j = c' j) (i : Nat) : colf b c i = colf b c' i := by
  rw [colf_eq, colf_eq, h _ (Nat.mod_lt _ (by omega)), h _ (Nat.mod_lt _ (by omega)), h _ (Nat.mod_lt _ (by omega)), h _ (Nat.mod_lt _ (by omega))]
theorem colf_xor (b c d : Nat → Nat) (i : Nat) : colf b (fun j => c j ^^^ d j) i = colf b c i ^^^ colf b d i := by
  rw [colf_eq, colf_eq, colf_eq, col4_xor]
theorem colf_comp {a b c : Nat → Nat} (e : Nat → Nat) (ha : ∀ j, a j < 256) (hb : ∀ j, b j < 256) (hc : ∀ j, c j < 256)
    (e0 : gmul (a 0) (b 0) ^^^ gmul (a 1) (b 3) ^^^ gmul (a 2) (b 2) ^^^ gmul (a 3) (b 1) = e 0) (e1 : gmul (a 0) (b 1) ^^^ gmul (a 1) (b 0) ^^^ gmul (a 2) (b 3) ^^^ gmul (a 3) (b 2) = e 1)
    (e2 : gmul (a 0) (b 2) ^^^ gmul (a 1) (b 1) ^^^ gmul (a 2) (b 0) ^^^ gmul (a 3) (b 3) = e 2) (e3 : gmul (a 0) (b 3) ^^^ gmul (a 1) (b 2) ^^^ gmul (a 2) (b 1) ^^^ gmul (a 3) (b 0) = e 3) (i : Nat) (hi : i < 4) :
    colf a (colf b c) i = colf e c i := by
  rcases (by omega : i = 0 ∨ i = 1 ∨ i = 2 ∨ i = 3) with rfl | rfl | rfl | rfl
  all_goals
    simp only [colf_eq, Nat.reduceAdd, Nat.reduceMod, Nat.zero_mod, Nat.zero_add]
    rw [comp (ha 0) (ha 1) (ha 2) (ha 3) (hb 0) (hb 1) (hb 2) (hb 3) (hc _) (hc _) (hc _) (hc _), e0, e1, e2, e3]
def oneB (j : Nat) : Nat := match j with | 0 => 1 | _ => 0
def sqB (j : Nat) : Nat := match j with | 0 => 5 | 2 => 4 | _ => 0
theorem sqB_lt (j : Nat) : sqB j < 256 := by unfold sqB; split <;> decide
theorem colf_one {c : Nat → Nat} (hc : ∀ j, c j < 256) (i : Nat) (hi : i < 4) : colf oneB c i = c i := by
  rw [colf_eq, Nat.mod_eq_of_lt hi]
  show gmul 1 (c i) ^^^ gmul 0 _ ^^^ gmul 0 _ ^^^ gmul 0 _ = _
  rw [one_gmul (hc i), zero_gmul, zero_gmul, zero_gmul, Nat.xor_zero, Nat.xor_zero, Nat.xor_zero]
theorem un_mix {c : Nat → Nat} (hc : ∀ j, c j < 256) (i : Nat) (hi : i < 4) : colf unB (colf mixB c) i = c i :=
  (colf_comp oneB unB_lt mixB_lt hc (by decide +kernel) (by decide +kernel) (by decide +kernel) (by decide +kernel) i hi).trans (colf_one hc i hi)
theorem mix_un {c : Nat → Nat} (hc : ∀ j, c j < 256) (i : Nat) (hi : i < 4) : colf mixB (colf unB c) i = c i :=
  (colf_comp oneB mixB_lt unB_lt hc (by decide +kernel) (by decide +kernel) (by decide +kernel) (by decide +kernel) i hi).trans (colf_one hc i hi)
theorem mix_sq {c : Nat → Nat} (hc : ∀ j, c j < 256) (i : Nat) (hi : i < 4) : colf mixB (colf mixB c) i = colf sqB c i :=
  colf_comp sqB mixB_lt mixB_lt hc (by decide +kernel) (by decide +kernel) (by decide +kernel) (by decide +kernel) i hi
theorem sq_sq {c : Nat → Nat} (hc : ∀ j, c j < 256) (i : Nat) (hi : i < 4) : colf sqB (colf sqB c) i = c i :=
  (colf_comp oneB sqB_lt sqB_lt hc (by decide +kernel) (by decide +kernel) (by decide +kernel) (by decide +kernel) i hi).trans (colf_one hc i hi)
theorem mix_four {c : Nat → Nat} (hc : ∀ j, c j < 256) (i : Nat) (hi : i < 4) : colf mixB (colf mixB (colf mixB (colf mixB c))) i = c i := by
  rw [mix_sq (colf_lt mixB_lt _) i hi, colf_congr (fun j hj => mix_sq hc j hj) i]
  exact sq_sq hc i hi
/-! ### At least five are no nought -/
theorem xor_nil {a b : Nat} (h : a ^^^ b = 0) : a = b := by
  have : a ^^^ (b ^^^ b) = b := by rw [← Nat.xor_assoc, h, Nat.zero_xor]
  rwa [Nat.xor_self, Nat.xor_zero] at this
theorem two {a b a' b' p q : Nat} (ha : a < 256) (hb : b < 256) (ha' : a' < 256) (hb' : b' < 256) (hp : p < 256) (hq : q < 256) (hdet : gmul a b' ^^^ gmul a' b ≠ 0) (h0 : b ≠ 0)
    (h1 : gmul a p ^^^ gmul b q = 0) (h2 : gmul a' p ^^^ gmul b' q = 0) : p = 0 ∧ q = 0 := by
  have e1 := xor_nil h1
  have e2 := xor_nil h2
  have k1 : gmul (gmul a b') p = gmul (gmul b b') q := by
    rw [gmul_comm ha hb', gmul_assoc hb' ha hp, e1, ← gmul_assoc hb' hb hq, gmul_comm hb' hb]
  have k2 : gmul (gmul a' b) p = gmul (gmul b b') q := by
    rw [gmul_comm ha' hb, gmul_assoc hb ha' hp, e2, ← gmul_assoc hb hb' hq]
  have k : gmul (gmul a b' ^^^ gmul a' b) p = 0 := by rw [gmul_xor_left p (gmul_lt _ ha) (gmul_lt _ ha'), k1, k2, Nat.xor_self]
  rcases gmul_eq_zero (xor_lt (gmul_lt _ ha) (gmul_lt _ ha')) hp k with h | h
  · exact absurd h hdet
  · subst h
    rw [gmul_zero] at e1
    rcases gmul_eq_zero hb hq e1.symm with h | h
    · exact absurd h h0
    · exact ⟨rfl, h⟩
def nz (a : Nat) : Nat := cond (decide (a = 0)) 0 1
theorem andT {a b : Bool} (ha : a = true) (hb : b = true) : (a && b) = true := by rw [ha, hb]; rfl
theorem imp2 {a b c d e f : Nat} (h : a = 0 → b = 0 → c = 0 → d = 0 → e = 0 ∧ f = 0) : (!(decide (a = 0) && decide (b = 0) && decide (c = 0) && decide (d = 0)) || (decide (e = 0) && decide (f = 0))) = true := by
  by_cases ha : a = 0 <;> by_cases hb : b = 0 <;> by_cases hc : c = 0 <;> by_cases hd : d = 0 <;> first | (simp [ha, hb, hc, hd]; done) | (have := h ha hb hc hd; simp [this])
theorem imp1 {a b c d e : Nat} (h : a = 0 → b = 0 → c = 0 → d = 0 → e = 0) : (!(decide (a = 0) && decide (b = 0) && decide (c = 0) && decide (d = 0)) || decide (e = 0)) = true := by
  by_cases ha : a = 0 <;> by_cases hb : b = 0 <;> by_cases hc : c = 0 <;> by_cases hd : d = 0 <;> first | (simp [ha, hb, hc, hd]; done) | (have := h ha hb hc hd; simp [this])
set_option maxRecDepth 100000 in
theorem pattern : ∀ c0 c1 c2 c3 x0 x1 x2 x3 : Bool, ((((((((((((((((((((((((((((((((((((((((((((((((((((((((((((((((((((((((!(c2 && c3 && x0 && x1) || (c0 && c1)) && (!(c2 && c3 && x0 && x2) || (c0 && c1))) && (!(c2 && c3 && x0 && x3) || (c0 && c1))) && (!(c2 && c3 && x1 && x2) || (c0 && c1))) && (!(c2 && c3 && x1 && x3) || (c0 && c1))) && (!(c2 && c3 && x2 && x3) || (c0 && c1))) && (!(c1 && c3 && x0 && x1) || (c0 && c2))) && (!(c1 && c3 && x0 && x2) || (c0 && c2))) && (!(c1 && c3 && x0 && x3) || (c0 && c2))) && (!(c1 && c3 && x1 && x2) || (c0 && c2))) && (!(c1 && c3 && x1 && x3) || (c0 && c2))) && (!(c1 && c3 && x2 && x3) || (c0 && c2))) && (!(c1 && c2 && x0 && x1) || (c0 && c3))) && (!(c1 && c2 && x0 && x2) || (c0 && c3))) && (!(c1 && c2 && x0 && x3) || (c0 && c3))) && (!(c1 && c2 && x1 && x2) || (c0 && c3))) && (!(c1 && c2 && x1 && x3) || (c0 && c3))) && (!(c1 && c2 && x2 && x3) || (c0 && c3))) && (!(c0 && c3 && x0 && x1) || (c1 && c2))) && (!(c0 && c3 && x0 && x2) || (c1 && c2))) && (!(c0 && c3 && x0 && x3) || (c1 && c2))) && (!(c0 && c3 && x1 && x2) || (c1 && c2))) && (!(c0 && c3 && x1 && x3) || (c1 && c2))) && (!(c0 && c3 && x2 && x3) || (c1 && c2))) && (!(c0 && c2 && x0 && x1) || (c1 && c3))) && (!(c0 && c2 && x0 && x2) || (c1 && c3))) && (!(c0 && c2 && x0 && x3) || (c1 && c3))) && (!(c0 && c2 && x1 && x2) || (c1 && c3))) && (!(c0 && c2 && x1 && x3) || (c1 && c3))) && (!(c0 && c2 && x2 && x3) || (c1 && c3))) && (!(c0 && c1 && x0 && x1) || (c2 && c3))) && (!(c0 && c1 && x0 && x2) || (c2 && c3))) && (!(c0 && c1 && x0 && x3) || (c2 && c3))) && (!(c0 && c1 && x1 && x2) || (c2 && c3))) && (!(c0 && c1 && x1 && x3) || (c2 && c3))) && (!(c0 && c1 && x2 && x3) || (c2 && c3))) && (!(c1 && c2 && c3 && x0) || c0)) && (!(c1 && c2 && c3 && x1) || c0)) && (!(c1 && c2 && c3 && x2) || c0)) && (!(c1 && c2 && c3 && x3) || c0)) && (!(c0 && c2 && c3 && x0) || c1)) && (!(c0 && c2 && c3 && x1) || c1)) && (!(c0 && c2 && c3 && x2) || c1)) && (!(c0 && c2 && c3 && x3) || c1)) && (!(c0 && c1 && c3 && x0) || c2)) && (!(c0 && c1 && c3 && x1) || c2)) && (!(c0 && c1 && c3 && x2) || c2)) && (!(c0 && c1 && c3 && x3) || c2)) && (!(c0 && c1 && c2 && x0) || c3)) && (!(c0 && c1 && c2 && x1) || c3)) && (!(c0 && c1 && c2 && x2) || c3)) && (!(c0 && c1 && c2 && x3) || c3)) && (!(x1 && x2 && x3 && c0) || x0)) && (!(x1 && x2 && x3 && c1) || x0)) && (!(x1 && x2 && x3 && c2) || x0)) && (!(x1 && x2 && x3 && c3) || x0)) && (!(x0 && x2 && x3 && c0) || x1)) && (!(x0 && x2 && x3 && c1) || x1)) && (!(x0 && x2 && x3 && c2) || x1)) && (!(x0 && x2 && x3 && c3) || x1)) && (!(x0 && x1 && x3 && c0) || x2)) && (!(x0 && x1 && x3 && c1) || x2)) && (!(x0 && x1 && x3 && c2) || x2)) && (!(x0 && x1 && x3 && c3) || x2)) && (!(x0 && x1 && x2 && c0) || x3)) && (!(x0 && x1 && x2 && c1) || x3)) && (!(x0 && x1 && x2 && c2) || x3)) && (!(x0 && x1 && x2 && c3) || x3)) && (!(x0 && x1 && x2 && x3) || c0)) && (!(x0 && x1 && x2 && x3) || c1)) && (!(x0 && x1 && x2 && x3) || c2)) && (!(x0 && x1 && x2 && x3) || c3)) = true → (Nat.ble 5 (cond c0 0 1 + cond c1 0 1 + cond c2 0 1 + cond c3 0 1 + cond x0 0 1 + cond x1 0 1 + cond x2 0 1 + cond x3 0 1) || (c0 && c1 && c2 && c3)) = true := by decide +kernel
theorem mds {c0 c1 c2 c3 x0 x1 x2 x3 : Nat} (h0 : c0 < 256) (h1 : c1 < 256) (h2 : c2 < 256) (h3 : c3 < 256) (k0 : x0 < 256) (k1 : x1 < 256) (k2 : x2 < 256) (k3 : x3 < 256) (X0 : x0 = col4 2 3 1 1 c0 c1 c2 c3) (X1 : x1 = col4 2 3 1 1 c1 c2 c3 c0) (X2 : x2 = col4 2 3 1 1 c2 c3 c0 c1) (X3 : x3 = col4 2 3 1 1 c3 c0 c1 c2) (C0 : c0 = col4 14 11 13 9 x0 x1 x2 x3) (C1 : c1 = col4 14 11 13 9 x1 x2 x3 x0) (C2 : c2 = col4 14 11 13 9 x2 x3 x0 x1) (C3 : c3 = col4 14 11 13 9 x3 x0 x1 x2) : 5 ≤ nz c0 + nz c1 + nz c2 + nz c3 + nz x0 + nz x1 + nz x2 + nz x3 ∨ (c0 = 0 ∧ c1 = 0 ∧ c2 = 0 ∧ c3 = 0) := by
  have F0 : c2 = 0 → c3 = 0 → x0 = 0 → x1 = 0 → c0 = 0 ∧ c1 = 0 := by
    intro a1 a2 b1 b2
    rw [X0, a1, a2] at b1
    rw [X1, a1, a2] at b2
    simp only [col4, gmul_zero, Nat.xor_zero, Nat.zero_xor] at b1 b2
    exact two (a := 2) (b := 3) (a' := 1) (b' := 2) (by decide) (by decide) (by decide) (by decide) h0 h1 (by decide +kernel) (by decide) b1 (by rw [Nat.xor_comm]; exact b2)
  have F1 : c2 = 0 → c3 = 0 → x0 = 0 → x2 = 0 → c0 = 0 ∧ c1 = 0 := by
    intro a1 a2 b1 b2
    rw [X0, a1, a2] at b1
    rw [X2, a1, a2] at b2
    simp only [col4, gmul_zero, Nat.xor_zero, Nat.zero_xor] at b1 b2
    exact two (a := 2) (b := 3) (a' := 1) (b' := 1) (by decide) (by decide) (by decide) (by decide) h0 h1 (by decide +kernel) (by decide) b1 b2
  have F2 : c2 = 0 → c3 = 0 → x0 = 0 → x3 = 0 → c0 = 0 ∧ c1 = 0 := by
    intro a1 a2 b1 b2
    rw [X0, a1, a2] at b1
    rw [X3, a1, a2] at b2
    simp only [col4, gmul_zero, Nat.xor_zero, Nat.zero_xor] at b1 b2
    exact two (a := 2) (b := 3) (a' := 3) (b' := 1) (by decide) (by decide) (by decide) (by decide) h0 h1 (by decide +kernel) (by decide) b1 b2
  have F3 : c2 = 0 → c3 = 0 → x1 = 0 → x2 = 0 → c0 = 0 ∧ c1 = 0 := by
    intro a1 a2 b1 b2
    rw [X1, a1, a2] at b1
    rw [X2, a1, a2] at b2
    simp only [col4, gmul_zero, Nat.xor_zero, Nat.zero_xor] at b1 b2
    exact two (a := 1) (b := 2) (a' := 1) (b' := 1) (by decide) (by decide) (by decide) (by decide) h0 h1 (by decide +kernel) (by decide) (by rw [Nat.xor_comm]; exact b1) b2
  have F4 : c2 = 0 → c3 = 0 → x1 = 0 → x3 = 0 → c0 = 0 ∧ c1 = 0 := by
    intro a1 a2 b1 b2
    rw [X1, a1, a2] at b1
    rw [X3, a1, a2] at b2
    simp only [col4, gmul_zero, Nat.xor_zero, Nat.zero_xor] at b1 b2
    exact two (a := 1) (b := 2) (a' := 3) (b' := 1) (by decide) (by decide) (by decide) (by decide) h0 h1 (by decide +kernel) (by decide) (by rw [Nat.xor_comm]; exact b1) b2
  have F5 : c2 = 0 → c3 = 0 → x2 = 0 → x3 = 0 → c0 = 0 ∧ c1 = 0 := by
    intro a1 a2 b1 b2
    rw [X2, a1, a2] at b1
    rw [X3, a1, a2] at b2
    simp only [col4, gmul_zero, Nat.xor_zero, Nat.zero_xor] at b1 b2
    exact two (a := 1) (b := 1) (a' := 3) (b' := 1) (by decide) (by decide) (by decide) (by decide) h0 h1 (by decide +kernel) (by decide) b1 b2
  have F6 : c1 = 0 → c3 = 0 → x0 = 0 → x1 = 0 → c0 = 0 ∧ c2 = 0 := by
    intro a1 a2 b1 b2
    rw [X0, a1, a2] at b1
    rw [X1, a1, a2] at b2
    simp only [col4, gmul_zero, Nat.xor_zero, Nat.zero_xor] at b1 b2
    exact two (a := 2) (b := 1) (a' := 1) (b' := 3) (by decide) (by decide) (by decide) (by decide) h0 h2 (by decide +kernel) (by decide) b1 (by rw [Nat.xor_comm]; exact b2)
  have F7 : c1 = 0 → c3 = 0 → x0 = 0 → x2 = 0 → c0 = 0 ∧ c2 = 0 := by
    intro a1 a2 b1 b2
    rw [X0, a1, a2] at b1
    rw [X2, a1, a2] at b2
    simp only [col4, gmul_zero, Nat.xor_zero, Nat.zero_xor] at b1 b2
    exact two (a := 2) (b := 1) (a' := 1) (b' := 2) (by decide) (by decide) (by decide) (by decide) h0 h2 (by decide +kernel) (by decide) b1 (by rw [Nat.xor_comm]; exact b2)
  have F8 : c1 = 0 → c3 = 0 → x0 = 0 → x3 = 0 → c0 = 0 ∧ c2 = 0 := by
    intro a1 a2 b1 b2
    rw [X0, a1, a2] at b1
    rw [X3, a1, a2] at b2
    simp only [col4, gmul_zero, Nat.xor_zero, Nat.zero_xor] at b1 b2
    exact two (a := 2) (b := 1) (a' := 3) (b' := 1) (by decide) (by decide) (by decide) (by decide) h0 h2 (by decide +kernel) (by decide) b1 b2
  have F9 : c1 = 0 → c3 = 0 → x1 = 0 → x2 = 0 → c0 = 0 ∧ c2 = 0 := by
    intro a1 a2 b1 b2
    rw [X1, a1, a2] at b1
    rw [X2, a1, a2] at b2
    simp only [col4, gmul_zero, Nat.xor_zero, Nat.zero_xor] at b1 b2
    exact two (a := 1) (b := 3) (a' := 1) (b' := 2) (by decide) (by decide) (by decide) (by decide) h0 h2 (by decide +kernel) (by decide) (by rw [Nat.xor_comm]; exact b1) (by rw [Nat.xor_comm]; exact b2)
  have F10 : c1 = 0 → c3 = 0 → x1 = 0 → x3 = 0 → c0 = 0 ∧ c2 = 0 := by
    intro a1 a2 b1 b2
    rw [X1, a1, a2] at b1
    rw [X3, a1, a2] at b2
    simp only [col4, gmul_zero, Nat.xor_zero, Nat.zero_xor] at b1 b2
    exact two (a := 1) (b := 3) (a' := 3) (b' := 1) (by decide) (by decide) (by decide) (by decide) h0 h2 (by decide +kernel) (by decide) (by rw [Nat.xor_comm]; exact b1) b2
  have F11 : c1 = 0 → c3 = 0 → x2 = 0 → x3 = 0 → c0 = 0 ∧ c2 = 0 := by
    intro a1 a2 b1 b2
    rw [X2, a1, a2] at b1
    rw [X3, a1, a2] at b2
    simp only [col4, gmul_zero, Nat.xor_zero, Nat.zero_xor] at b1 b2
    exact two (a := 1) (b := 2) (a' := 3) (b' := 1) (by decide) (by decide) (by decide) (by decide) h0 h2 (by decide +kernel) (by decide) (by rw [Nat.xor_comm]; exact b1) b2
  have F12 : c1 = 0 → c2 = 0 → x0 = 0 → x1 = 0 → c0 = 0 ∧ c3 = 0 := by
    intro a1 a2 b1 b2
    rw [X0, a1, a2] at b1
    rw [X1, a1, a2] at b2
    simp only [col4, gmul_zero, Nat.xor_zero, Nat.zero_xor] at b1 b2
    exact two (a := 2) (b := 1) (a' := 1) (b' := 1) (by decide) (by decide) (by decide) (by decide) h0 h3 (by decide +kernel) (by decide) b1 (by rw [Nat.xor_comm]; exact b2)
  have F13 : c1 = 0 → c2 = 0 → x0 = 0 → x2 = 0 → c0 = 0 ∧ c3 = 0 := by
    intro a1 a2 b1 b2
    rw [X0, a1, a2] at b1
    rw [X2, a1, a2] at b2
    simp only [col4, gmul_zero, Nat.xor_zero, Nat.zero_xor] at b1 b2
    exact two (a := 2) (b := 1) (a' := 1) (b' := 3) (by decide) (by decide) (by decide) (by decide) h0 h3 (by decide +kernel) (by decide) b1 (by rw [Nat.xor_comm]; exact b2)
  have F14 : c1 = 0 → c2 = 0 → x0 = 0 → x3 = 0 → c0 = 0 ∧ c3 = 0 := by
    intro a1 a2 b1 b2
    rw [X0, a1, a2] at b1
    rw [X3, a1, a2] at b2
    simp only [col4, gmul_zero, Nat.xor_zero, Nat.zero_xor] at b1 b2
    exact two (a := 2) (b := 1) (a' := 3) (b' := 2) (by decide) (by decide) (by decide) (by decide) h0 h3 (by decide +kernel) (by decide) b1 (by rw [Nat.xor_comm]; exact b2)
  have F15 : c1 = 0 → c2 = 0 → x1 = 0 → x2 = 0 → c0 = 0 ∧ c3 = 0 := by
    intro a1 a2 b1 b2
    rw [X1, a1, a2] at b1
    rw [X2, a1, a2] at b2
    simp only [col4, gmul_zero, Nat.xor_zero, Nat.zero_xor] at b1 b2
    exact two (a := 1) (b := 1) (a' := 1) (b' := 3) (by decide) (by decide) (by decide) (by decide) h0 h3 (by decide +kernel) (by decide) (by rw [Nat.xor_comm]; exact b1) (by rw [Nat.xor_comm]; exact b2)
  have F16 : c1 = 0 → c2 = 0 → x1 = 0 → x3 = 0 → c0 = 0 ∧ c3 = 0 := by
    intro a1 a2 b1 b2
    rw [X1, a1, a2] at b1
    rw [X3, a1, a2] at b2
    simp only [col4, gmul_zero, Nat.xor_zero, Nat.zero_xor] at b1 b2
    exact two (a := 1) (b := 1) (a' := 3) (b' := 2) (by decide) (by decide) (by decide) (by decide) h0 h3 (by decide +kernel) (by decide) (by rw [Nat.xor_comm]; exact b1) (by rw [Nat.xor_comm]; exact b2)
  have F17 : c1 = 0 → c2 = 0 → x2 = 0 → x3 = 0 → c0 = 0 ∧ c3 = 0 := by
    intro a1 a2 b1 b2
    rw [X2, a1, a2] at b1
    rw [X3, a1, a2] at b2
    simp only [col4, gmul_zero, Nat.xor_zero, Nat.zero_xor] at b1 b2
    exact two (a := 1) (b := 3) (a' := 3) (b' := 2) (by decide) (by decide) (by decide) (by decide) h0 h3 (by decide +kernel) (by decide) (by rw [Nat.xor_comm]; exact b1) (by rw [Nat.xor_comm]; exact b2)
  have F18 : c0 = 0 → c3 = 0 → x0 = 0 → x1 = 0 → c1 = 0 ∧ c2 = 0 := by
    intro a1 a2 b1 b2
    rw [X0, a1, a2] at b1
    rw [X1, a1, a2] at b2
    simp only [col4, gmul_zero, Nat.xor_zero, Nat.zero_xor] at b1 b2
    exact two (a := 3) (b := 1) (a' := 2) (b' := 3) (by decide) (by decide) (by decide) (by decide) h1 h2 (by decide +kernel) (by decide) b1 b2
  have F19 : c0 = 0 → c3 = 0 → x0 = 0 → x2 = 0 → c1 = 0 ∧ c2 = 0 := by
    intro a1 a2 b1 b2
    rw [X0, a1, a2] at b1
    rw [X2, a1, a2] at b2
    simp only [col4, gmul_zero, Nat.xor_zero, Nat.zero_xor] at b1 b2
    exact two (a := 3) (b := 1) (a' := 1) (b' := 2) (by decide) (by decide) (by decide) (by decide) h1 h2 (by decide +kernel) (by decide) b1 (by rw [Nat.xor_comm]; exact b2)
  have F20 : c0 = 0 → c3 = 0 → x0 = 0 → x3 = 0 → c1 = 0 ∧ c2 = 0 := by
    intro a1 a2 b1 b2
    rw [X0, a1, a2] at b1
    rw [X3, a1, a2] at b2
    simp only [col4, gmul_zero, Nat.xor_zero, Nat.zero_xor] at b1 b2
    exact two (a := 3) (b := 1) (a' := 1) (b' := 1) (by decide) (by decide) (by decide) (by decide) h1 h2 (by decide +kernel) (by decide) b1 b2
  have F21 : c0 = 0 → c3 = 0 → x1 = 0 → x2 = 0 → c1 = 0 ∧ c2 = 0 := by
    intro a1 a2 b1 b2
    rw [X1, a1, a2] at b1
    rw [X2, a1, a2] at b2
    simp only [col4, gmul_zero, Nat.xor_zero, Nat.zero_xor] at b1 b2
    exact two (a := 2) (b := 3) (a' := 1) (b' := 2) (by decide) (by decide) (by decide) (by decide) h1 h2 (by decide +kernel) (by decide) b1 (by rw [Nat.xor_comm]; exact b2)
  have F22 : c0 = 0 → c3 = 0 → x1 = 0 → x3 = 0 → c1 = 0 ∧ c2 = 0 := by
    intro a1 a2 b1 b2
    rw [X1, a1, a2] at b1
    rw [X3, a1, a2] at b2
    simp only [col4, gmul_zero, Nat.xor_zero, Nat.zero_xor] at b1 b2
    exact two (a := 2) (b := 3) (a' := 1) (b' := 1) (by decide) (by decide) (by decide) (by decide) h1 h2 (by decide +kernel) (by decide) b1 b2
  have F23 : c0 = 0 → c3 = 0 → x2 = 0 → x3 = 0 → c1 = 0 ∧ c2 = 0 := by
    intro a1 a2 b1 b2
    rw [X2, a1, a2] at b1
    rw [X3, a1, a2] at b2
    simp only [col4, gmul_zero, Nat.xor_zero, Nat.zero_xor] at b1 b2
    exact two (a := 1) (b := 2) (a' := 1) (b' := 1) (by decide) (by decide) (by decide) (by decide) h1 h2 (by decide +kernel) (by decide) (by rw [Nat.xor_comm]; exact b1) b2
  have F24 : c0 = 0 → c2 = 0 → x0 = 0 → x1 = 0 → c1 = 0 ∧ c3 = 0 := by
    intro a1 a2 b1 b2
    rw [X0, a1, a2] at b1
    rw [X1, a1, a2] at b2
    simp only [col4, gmul_zero, Nat.xor_zero, Nat.zero_xor] at b1 b2
    exact two (a := 3) (b := 1) (a' := 2) (b' := 1) (by decide) (by decide) (by decide) (by decide) h1 h3 (by decide +kernel) (by decide) b1 b2
  have F25 : c0 = 0 → c2 = 0 → x0 = 0 → x2 = 0 → c1 = 0 ∧ c3 = 0 := by
    intro a1 a2 b1 b2
    rw [X0, a1, a2] at b1
    rw [X2, a1, a2] at b2
    simp only [col4, gmul_zero, Nat.xor_zero, Nat.zero_xor] at b1 b2
    exact two (a := 3) (b := 1) (a' := 1) (b' := 3) (by decide) (by decide) (by decide) (by decide) h1 h3 (by decide +kernel) (by decide) b1 (by rw [Nat.xor_comm]; exact b2)
  have F26 : c0 = 0 → c2 = 0 → x0 = 0 → x3 = 0 → c1 = 0 ∧ c3 = 0 := by
    intro a1 a2 b1 b2
    rw [X0, a1, a2] at b1
    rw [X3, a1, a2] at b2
    simp only [col4, gmul_zero, Nat.xor_zero, Nat.zero_xor] at b1 b2
    exact two (a := 3) (b := 1) (a' := 1) (b' := 2) (by decide) (by decide) (by decide) (by decide) h1 h3 (by decide +kernel) (by decide) b1 (by rw [Nat.xor_comm]; exact b2)
  have F27 : c0 = 0 → c2 = 0 → x1 = 0 → x2 = 0 → c1 = 0 ∧ c3 = 0 := by
    intro a1 a2 b1 b2
    rw [X1, a1, a2] at b1
    rw [X2, a1, a2] at b2
    simp only [col4, gmul_zero, Nat.xor_zero, Nat.zero_xor] at b1 b2
    exact two (a := 2) (b := 1) (a' := 1) (b' := 3) (by decide) (by decide) (by decide) (by decide) h1 h3 (by decide +kernel) (by decide) b1 (by rw [Nat.xor_comm]; exact b2)
  have F28 : c0 = 0 → c2 = 0 → x1 = 0 → x3 = 0 → c1 = 0 ∧ c3 = 0 := by
    intro a1 a2 b1 b2
    rw [X1, a1, a2] at b1
    rw [X3, a1, a2] at b2
    simp only [col4, gmul_zero, Nat.xor_zero, Nat.zero_xor] at b1 b2
    exact two (a := 2) (b := 1) (a' := 1) (b' := 2) (by decide) (by decide) (by decide) (by decide) h1 h3 (by decide +kernel) (by decide) b1 (by rw [Nat.xor_comm]; exact b2)
  have F29 : c0 = 0 → c2 = 0 → x2 = 0 → x3 = 0 → c1 = 0 ∧ c3 = 0 := by
    intro a1 a2 b1 b2
    rw [X2, a1, a2] at b1
    rw [X3, a1, a2] at b2
    simp only [col4, gmul_zero, Nat.xor_zero, Nat.zero_xor] at b1 b2
    exact two (a := 1) (b := 3) (a' := 1) (b' := 2) (by decide) (by decide) (by decide) (by decide) h1 h3 (by decide +kernel) (by decide) (by rw [Nat.xor_comm]; exact b1) (by rw [Nat.xor_comm]; exact b2)
  have F30 : c0 = 0 → c1 = 0 → x0 = 0 → x1 = 0 → c2 = 0 ∧ c3 = 0 := by
    intro a1 a2 b1 b2
    rw [X0, a1, a2] at b1
    rw [X1, a1, a2] at b2
    simp only [col4, gmul_zero, Nat.xor_zero, Nat.zero_xor] at b1 b2
    exact two (a := 1) (b := 1) (a' := 3) (b' := 1) (by decide) (by decide) (by decide) (by decide) h2 h3 (by decide +kernel) (by decide) b1 b2
  have F31 : c0 = 0 → c1 = 0 → x0 = 0 → x2 = 0 → c2 = 0 ∧ c3 = 0 := by
    intro a1 a2 b1 b2
    rw [X0, a1, a2] at b1
    rw [X2, a1, a2] at b2
    simp only [col4, gmul_zero, Nat.xor_zero, Nat.zero_xor] at b1 b2
    exact two (a := 1) (b := 1) (a' := 2) (b' := 3) (by decide) (by decide) (by decide) (by decide) h2 h3 (by decide +kernel) (by decide) b1 b2
  have F32 : c0 = 0 → c1 = 0 → x0 = 0 → x3 = 0 → c2 = 0 ∧ c3 = 0 := by
    intro a1 a2 b1 b2
    rw [X0, a1, a2] at b1
    rw [X3, a1, a2] at b2
    simp only [col4, gmul_zero, Nat.xor_zero, Nat.zero_xor] at b1 b2
    exact two (a := 1) (b := 1) (a' := 1) (b' := 2) (by decide) (by decide) (by decide) (by decide) h2 h3 (by decide +kernel) (by decide) b1 (by rw [Nat.xor_comm]; exact b2)
  have F33 : c0 = 0 → c1 = 0 → x1 = 0 → x2 = 0 → c2 = 0 ∧ c3 = 0 := by
    intro a1 a2 b1 b2
    rw [X1, a1, a2] at b1
    rw [X2, a1, a2] at b2
    simp only [col4, gmul_zero, Nat.xor_zero, Nat.zero_xor] at b1 b2
    exact two (a := 3) (b := 1) (a' := 2) (b' := 3) (by decide) (by decide) (by decide) (by decide) h2 h3 (by decide +kernel) (by decide) b1 b2
  have F34 : c0 = 0 → c1 = 0 → x1 = 0 → x3 = 0 → c2 = 0 ∧ c3 = 0 := by
    intro a1 a2 b1 b2
    rw [X1, a1, a2] at b1
    rw [X3, a1, a2] at b2
    simp only [col4, gmul_zero, Nat.xor_zero, Nat.zero_xor] at b1 b2
    exact two (a := 3) (b := 1) (a' := 1) (b' := 2) (by decide) (by decide) (by decide) (by decide) h2 h3 (by decide +kernel) (by decide) b1 (by rw [Nat.xor_comm]; exact b2)
  have F35 : c0 = 0 → c1 = 0 → x2 = 0 → x3 = 0 → c2 = 0 ∧ c3 = 0 := by
    intro a1 a2 b1 b2
    rw [X2, a1, a2] at b1
    rw [X3, a1, a2] at b2
    simp only [col4, gmul_zero, Nat.xor_zero, Nat.zero_xor] at b1 b2
    exact two (a := 2) (b := 3) (a' := 1) (b' := 2) (by decide) (by decide) (by decide) (by decide) h2 h3 (by decide +kernel) (by decide) b1 (by rw [Nat.xor_comm]; exact b2)
  have F36 : c1 = 0 → c2 = 0 → c3 = 0 → x0 = 0 → c0 = 0 := by
    intro a1 a2 a3 b1
    rw [X0, a1, a2, a3] at b1
    simp only [col4, gmul_zero, Nat.xor_zero, Nat.zero_xor] at b1
    exact (gmul_eq_zero (by decide) h0 b1).resolve_left (by decide)
  have F37 : c1 = 0 → c2 = 0 → c3 = 0 → x1 = 0 → c0 = 0 := by
    intro a1 a2 a3 b1
    rw [X1, a1, a2, a3] at b1
    simp only [col4, gmul_zero, Nat.xor_zero, Nat.zero_xor] at b1
    exact (gmul_eq_zero (by decide) h0 b1).resolve_left (by decide)
  have F38 : c1 = 0 → c2 = 0 → c3 = 0 → x2 = 0 → c0 = 0 := by
    intro a1 a2 a3 b1
    rw [X2, a1, a2, a3] at b1
    simp only [col4, gmul_zero, Nat.xor_zero, Nat.zero_xor] at b1
    exact (gmul_eq_zero (by decide) h0 b1).resolve_left (by decide)
  have F39 : c1 = 0 → c2 = 0 → c3 = 0 → x3 = 0 → c0 = 0 := by
    intro a1 a2 a3 b1
    rw [X3, a1, a2, a3] at b1
    simp only [col4, gmul_zero, Nat.xor_zero, Nat.zero_xor] at b1
    exact (gmul_eq_zero (by decide) h0 b1).resolve_left (by decide)
  have F40 : c0 = 0 → c2 = 0 → c3 = 0 → x0 = 0 → c1 = 0 := by
    intro a1 a2 a3 b1
    rw [X0, a1, a2, a3] at b1
    simp only [col4, gmul_zero, Nat.xor_zero, Nat.zero_xor] at b1
    exact (gmul_eq_zero (by decide) h1 b1).resolve_left (by decide)
  have F41 : c0 = 0 → c2 = 0 → c3 = 0 → x1 = 0 → c1 = 0 := by
    intro a1 a2 a3 b1
    rw [X1, a1, a2, a3] at b1
    simp only [col4, gmul_zero, Nat.xor_zero, Nat.zero_xor] at b1
    exact (gmul_eq_zero (by decide) h1 b1).resolve_left (by decide)
  have F42 : c0 = 0 → c2 = 0 → c3 = 0 → x2 = 0 → c1 = 0 := by
    intro a1 a2 a3 b1
    rw [X2, a1, a2, a3] at b1
    simp only [col4, gmul_zero, Nat.xor_zero, Nat.zero_xor] at b1
    exact (gmul_eq_zero (by decide) h1 b1).resolve_left (by decide)
  have F43 : c0 = 0 → c2 = 0 → c3 = 0 → x3 = 0 → c1 = 0 := by
    intro a1 a2 a3 b1
    rw [X3, a1, a2, a3] at b1
    simp only [col4, gmul_zero, Nat.xor_zero, Nat.zero_xor] at b1
    exact (gmul_eq_zero (by decide) h1 b1).resolve_left (by decide)
  have F44 : c0 = 0 → c1 = 0 → c3 = 0 → x0 = 0 → c2 = 0 := by
    intro a1 a2 a3 b1
    rw [X0, a1, a2, a3] at b1
    simp only [col4, gmul_zero, Nat.xor_zero, Nat.zero_xor] at b1
    exact (gmul_eq_zero (by decide) h2 b1).resolve_left (by decide)
  have F45 : c0 = 0 → c1 = 0 → c3 = 0 → x1 = 0 → c2 = 0 := by
    intro a1 a2 a3 b1
    rw [X1, a1, a2, a3] at b1
    simp only [col4, gmul_zero, Nat.xor_zero, Nat.zero_xor] at b1
    exact (gmul_eq_zero (by decide) h2 b1).resolve_left (by decide)
  have F46 : c0 = 0 → c1 = 0 → c3 = 0 → x2 = 0 → c2 = 0 := by
    intro a1 a2 a3 b1
    rw [X2, a1, a2, a3] at b1
    simp only [col4, gmul_zero, Nat.xor_zero, Nat.zero_xor] at b1
    exact (gmul_eq_zero (by decide) h2 b1).resolve_left (by decide)
  have F47 : c0 = 0 → c1 = 0 → c3 = 0 → x3 = 0 → c2 = 0 := by
    intro a1 a2 a3 b1
    rw [X3, a1, a2, a3] at b1
    simp only [col4, gmul_zero, Nat.xor_zero, Nat.zero_xor] at b1
    exact (gmul_eq_zero (by decide) h2 b1).resolve_left (by decide)
  have F48 : c0 = 0 → c1 = 0 → c2 = 0 → x0 = 0 → c3 = 0 := by
    intro a1 a2 a3 b1
    rw [X0, a1, a2, a3] at b1
    simp only [col4, gmul_zero, Nat.xor_zero, Nat.zero_xor] at b1
    exact (gmul_eq_zero (by decide) h3 b1).resolve_left (by decide)
  have F49 : c0 = 0 → c1 = 0 → c2 = 0 → x1 = 0 → c3 = 0 := by
    intro a1 a2 a3 b1
    rw [X1, a1, a2, a3] at b1
    simp only [col4, gmul_zero, Nat.xor_zero, Nat.zero_xor] at b1
    exact (gmul_eq_zero (by decide) h3 b1).resolve_left (by decide)
  have F50 : c0 = 0 → c1 = 0 → c2 = 0 → x2 = 0 → c3 = 0 := by
    intro a1 a2 a3 b1
    rw [X2, a1, a2, a3] at b1
    simp only [col4, gmul_zero, Nat.xor_zero, Nat.zero_xor] at b1
    exact (gmul_eq_zero (by decide) h3 b1).resolve_left (by decide)
  have F51 : c0 = 0 → c1 = 0 → c2 = 0 → x3 = 0 → c3 = 0 := by
    intro a1 a2 a3 b1
    rw [X3, a1, a2, a3] at b1
    simp only [col4, gmul_zero, Nat.xor_zero, Nat.zero_xor] at b1
    exact (gmul_eq_zero (by decide) h3 b1).resolve_left (by decide)
  have F52 : x1 = 0 → x2 = 0 → x3 = 0 → c0 = 0 → x0 = 0 := by
    intro a1 a2 a3 b1
    rw [C0, a1, a2, a3] at b1
    simp only [col4, gmul_zero, Nat.xor_zero, Nat.zero_xor] at b1
    exact (gmul_eq_zero (by decide) k0 b1).resolve_left (by decide)
  have F53 : x1 = 0 → x2 = 0 → x3 = 0 → c1 = 0 → x0 = 0 := by
    intro a1 a2 a3 b1
    rw [C1, a1, a2, a3] at b1
    simp only [col4, gmul_zero, Nat.xor_zero, Nat.zero_xor] at b1
    exact (gmul_eq_zero (by decide) k0 b1).resolve_left (by decide)
  have F54 : x1 = 0 → x2 = 0 → x3 = 0 → c2 = 0 → x0 = 0 := by
    intro a1 a2 a3 b1
    rw [C2, a1, a2, a3] at b1
    simp only [col4, gmul_zero, Nat.xor_zero, Nat.zero_xor] at b1
    exact (gmul_eq_zero (by decide) k0 b1).resolve_left (by decide)
  have F55 : x1 = 0 → x2 = 0 → x3 = 0 → c3 = 0 → x0 = 0 := by
    intro a1 a2 a3 b1
    rw [C3, a1, a2, a3] at b1
    simp only [col4, gmul_zero, Nat.xor_zero, Nat.zero_xor] at b1
    exact (gmul_eq_zero (by decide) k0 b1).resolve_left (by decide)
  have F56 : x0 = 0 → x2 = 0 → x3 = 0 → c0 = 0 → x1 = 0 := by
    intro a1 a2 a3 b1
    rw [C0, a1, a2, a3] at b1
    simp only [col4, gmul_zero, Nat.xor_zero, Nat.zero_xor] at b1
    exact (gmul_eq_zero (by decide) k1 b1).resolve_left (by decide)
  have F57 : x0 = 0 → x2 = 0 → x3 = 0 → c1 = 0 → x1 = 0 := by
    intro a1 a2 a3 b1
    rw [C1, a1, a2, a3] at b1
    simp only [col4, gmul_zero, Nat.xor_zero, Nat.zero_xor] at b1
    exact (gmul_eq_zero (by decide) k1 b1).resolve_left (by decide)
  have F58 : x0 = 0 → x2 = 0 → x3 = 0 → c2 = 0 → x1 = 0 := by
    intro a1 a2 a3 b1
    rw [C2, a1, a2, a3] at b1
    simp only [col4, gmul_zero, Nat.xor_zero, Nat.zero_xor] at b1
    exact (gmul_eq_zero (by decide) k1 b1).resolve_left (by decide)
  have F59 : x0 = 0 → x2 = 0 → x3 = 0 → c3 = 0 → x1 = 0 := by
    intro a1 a2 a3 b1
    rw [C3, a1, a2, a3] at b1
    simp only [col4, gmul_zero, Nat.xor_zero, Nat.zero_xor] at b1
    exact (gmul_eq_zero (by decide) k1 b1).resolve_left (by decide)
  have F60 : x0 = 0 → x1 = 0 → x3 = 0 → c0 = 0 → x2 = 0 := by
    intro a1 a2 a3 b1
    rw [C0, a1, a2, a3] at b1
    simp only [col4, gmul_zero, Nat.xor_zero, Nat.zero_xor] at b1
    exact (gmul_eq_zero (by decide) k2 b1).resolve_left (by decide)
  have F61 : x0 = 0 → x1 = 0 → x3 = 0 → c1 = 0 → x2 = 0 := by
    intro a1 a2 a3 b1
    rw [C1, a1, a2, a3] at b1
    simp only [col4, gmul_zero, Nat.xor_zero, Nat.zero_xor] at b1
    exact (gmul_eq_zero (by decide) k2 b1).resolve_left (by decide)
  have F62 : x0 = 0 → x1 = 0 → x3 = 0 → c2 = 0 → x2 = 0 := by
    intro a1 a2 a3 b1
    rw [C2, a1, a2, a3] at b1
    simp only [col4, gmul_zero, Nat.xor_zero, Nat.zero_xor] at b1
    exact (gmul_eq_zero (by decide) k2 b1).resolve_left (by decide)
  have F63 : x0 = 0 → x1 = 0 → x3 = 0 → c3 = 0 → x2 = 0 := by
    intro a1 a2 a3 b1
    rw [C3, a1, a2, a3] at b1
    simp only [col4, gmul_zero, Nat.xor_zero, Nat.zero_xor] at b1
    exact (gmul_eq_zero (by decide) k2 b1).resolve_left (by decide)
  have F64 : x0 = 0 → x1 = 0 → x2 = 0 → c0 = 0 → x3 = 0 := by
    intro a1 a2 a3 b1
    rw [C0, a1, a2, a3] at b1
    simp only [col4, gmul_zero, Nat.xor_zero, Nat.zero_xor] at b1
    exact (gmul_eq_zero (by decide) k3 b1).resolve_left (by decide)
  have F65 : x0 = 0 → x1 = 0 → x2 = 0 → c1 = 0 → x3 = 0 := by
    intro a1 a2 a3 b1
    rw [C1, a1, a2, a3] at b1
    simp only [col4, gmul_zero, Nat.xor_zero, Nat.zero_xor] at b1
    exact (gmul_eq_zero (by decide) k3 b1).resolve_left (by decide)
  have F66 : x0 = 0 → x1 = 0 → x2 = 0 → c2 = 0 → x3 = 0 := by
    intro a1 a2 a3 b1
    rw [C2, a1, a2, a3] at b1
    simp only [col4, gmul_zero, Nat.xor_zero, Nat.zero_xor] at b1
    exact (gmul_eq_zero (by decide) k3 b1).resolve_left (by decide)
  have F67 : x0 = 0 → x1 = 0 → x2 = 0 → c3 = 0 → x3 = 0 := by
    intro a1 a2 a3 b1
    rw [C3, a1, a2, a3] at b1
    simp only [col4, gmul_zero, Nat.xor_zero, Nat.zero_xor] at b1
    exact (gmul_eq_zero (by decide) k3 b1).resolve_left (by decide)
  have F68 : x0 = 0 → x1 = 0 → x2 = 0 → x3 = 0 → c0 = 0 := by
    intro a1 a2 a3 a4
    rw [C0, a1, a2, a3, a4]
    simp only [col4, gmul_zero, Nat.xor_zero]
  have F69 : x0 = 0 → x1 = 0 → x2 = 0 → x3 = 0 → c1 = 0 := by
    intro a1 a2 a3 a4
    rw [C1, a1, a2, a3, a4]
    simp only [col4, gmul_zero, Nat.xor_zero]
  have F70 : x0 = 0 → x1 = 0 → x2 = 0 → x3 = 0 → c2 = 0 := by
    intro a1 a2 a3 a4
    rw [C2, a1, a2, a3, a4]
    simp only [col4, gmul_zero, Nat.xor_zero]
  have F71 : x0 = 0 → x1 = 0 → x2 = 0 → x3 = 0 → c3 = 0 := by
    intro a1 a2 a3 a4
    rw [C3, a1, a2, a3, a4]
    simp only [col4, gmul_zero, Nat.xor_zero]
  have P := pattern _ _ _ _ _ _ _ _ (andT (andT (andT (andT (andT (andT (andT (andT (andT (andT (andT (andT (andT (andT (andT (andT (andT (andT (andT (andT (andT (andT (andT (andT (andT (andT (andT (andT (andT (andT (andT (andT (andT (andT (andT (andT (andT (andT (andT (andT (andT (andT (andT (andT (andT (andT (andT (andT (andT (andT (andT (andT (andT (andT (andT (andT (andT (andT (andT (andT (andT (andT (andT (andT (andT (andT (andT (andT (andT (andT (andT (imp2 F0) (imp2 F1)) (imp2 F2)) (imp2 F3)) (imp2 F4)) (imp2 F5)) (imp2 F6)) (imp2 F7)) (imp2 F8)) (imp2 F9)) (imp2 F10)) (imp2 F11)) (imp2 F12)) (imp2 F13)) (imp2 F14)) (imp2 F15)) (imp2 F16)) (imp2 F17)) (imp2 F18)) (imp2 F19)) (imp2 F20)) (imp2 F21)) (imp2 F22)) (imp2 F23)) (imp2 F24)) (imp2 F25)) (imp2 F26)) (imp2 F27)) (imp2 F28)) (imp2 F29)) (imp2 F30)) (imp2 F31)) (imp2 F32)) (imp2 F33)) (imp2 F34)) (imp2 F35)) (imp1 F36)) (imp1 F37)) (imp1 F38)) (imp1 F39)) (imp1 F40)) (imp1 F41)) (imp1 F42)) (imp1 F43)) (imp1 F44)) (imp1 F45)) (imp1 F46)) (imp1 F47)) (imp1 F48)) (imp1 F49)) (imp1 F50)) (imp1 F51)) (imp1 F52)) (imp1 F53)) (imp1 F54)) (imp1 F55)) (imp1 F56)) (imp1 F57)) (imp1 F58)) (imp1 F59)) (imp1 F60)) (imp1 F61)) (imp1 F62)) (imp1 F63)) (imp1 F64)) (imp1 F65)) (imp1 F66)) (imp1 F67)) (imp1 F68)) (imp1 F69)) (imp1 F70)) (imp1 F71))
  rcases Bool.or_eq_true_iff.1 P with h | h
  · exact .inl (Nat.le_of_ble_eq_true h)
  · simp only [Bool.and_eq_true, decide_eq_true_eq] at h
    exact .inr ⟨h.1.1.1, h.1.1.2, h.1.2, h.2⟩
end Go.Proofs.Ythgfglkncmekmab
