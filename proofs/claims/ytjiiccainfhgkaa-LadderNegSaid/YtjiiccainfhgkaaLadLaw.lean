/- The ladder: laws. Every number is that of a point, of the curve or of its twist; so often the point, so often its number. -/
import Derived.Test.YtjiiccainfhgkaaLadEd
import Derived.Test.YtjiiccainfhgkaaLadPlain
import Derived.Test.YtjiiccainfhgkaaCurveLaw
import Derived.Test.YtjiiccainfhgkaaFroot2
namespace Go.Proofs.Ytjiiccainfhgkaa
set_option linter.unusedVariables false
def root2D : Nat := 55487632915927625549282413919184614932259505768049324239291840100650878933168
def iroot2D : Nat := 3249481024807424625215171383344991435676005188354689078848604308279292361375
theorem neg2_nonsq (w : F) : w * w ≠ toF (PP - 2) := nonsq (n := PP - 2) (by rw [flow_def]; decide +kernel) (by decide +kernel) w
theorem root2D_sq : toF root2D * toF root2D = toF (2 * DD) := by decide +kernel
theorem root2D_ne : toF root2D ≠ 0 := by decide +kernel
/-- The twist. -/
def ET : Ed K0 := ⟨toF (2 * DD), toF (PP - 2), toF root2D, root2D_sq, root2D_ne, neg2_nonsq⟩
abbrev cL : F := toF 121665
theorem mo0 : Mo E0 1 cL := ⟨one_sq, .inl ⟨rfl, by decide +kernel⟩⟩
theorem mo1 : Mo ET (0 - 1) cL := ⟨neg_one_sq, .inr ⟨rfl, by decide +kernel⟩⟩
theorem Mo.two {n : Nat} [NeZero n] {K : Fl n} {E : Ed K} {s c : Fin n} (M : Mo E s c) : s = 1 ∨ s = 0 - 1 := M.hc.elim (fun h => .inl h.1) (fun h => .inr h.1)
def Kq (s : F) (q : Pt) (p : P2 PP) : Prop := Kp s (toF q.x) (toF q.y) p
section
variable {E : Ed K0} {s : F}
theorem kq_twice (M : Mo E s cL) {q : Pt} {p : P2 PP} (h : Kq s q p) (hp : E.on p) : Kq s q.twice (E.add p p) := by
  have := Kp.twice M h hp
  unfold Kq Pt.twice
  dsimp only
  simp only [toF_mul, toF_add, toF_sub]
  exact this
theorem kq_joined (M : Mo E s cL) {q r : Pt} {u : Nat} {p t : P2 PP} (h : Kq s q p) (h' : Kq s r t) (hp : E.on p) (ht : E.on t) (hu : Kp s (toF u) 1 (E.add t p.neg)) (u0 : toF u ≠ 0) : Kq s (q.joined r u) (E.add p t) := by
  have := Kp.joined M.ss M.two h h' hp ht hu u0
  unfold Kq Pt.joined
  dsimp only
  simp only [toF_mul, toF_add, toF_sub]
  exact this
end
section
variable {n : Nat} [NeZero n] {K : Fl n} (E : Ed K)
theorem Ed.neg_neg_add {P Q : P2 n} (hP : E.on P) (hQ : E.on Q) : E.add Q (E.add Q P).neg = P.neg := by
  have hS := E.add_on hQ hP
  refine E.cancel_right (E.add_on hQ (E.neg_on hS)) (E.neg_on hP) hS ?_
  rw [E.add_assoc hQ (E.neg_on hS) hS, E.add_comm (E.add Q P).neg, E.add_neg hS, E.add_zero hQ, E.add_comm Q P, ← E.add_assoc (E.neg_on hP) hP hQ, E.add_comm P.neg P, E.add_neg hP, E.zero_add hQ]
theorem Ed.diff {P Q : P2 n} (hP : E.on P) (hQ : E.on Q) : E.add (E.add Q P) Q.neg = P := by
  rw [E.add_comm Q P, E.add_assoc hP hQ (E.neg_on hQ), E.add_neg hQ, E.add_zero hP]
theorem kp_zero (K : Fl n) (s : Fin n) : Kp s 1 0 P2.zero := ⟨by unfold P2.zero; dsimp only; grind, fun h => K.one_ne h.1⟩
theorem kp_neg {s u : Fin n} {P : P2 n} (h : Kp s u 1 P) : Kp s u 1 P.neg := ⟨h.eq, h.ne⟩
end
theorem LS_kq {E : Ed K0} {s : F} (M : Mo E s cL) {k u : Nat} (hk : k < T256) {P : P2 PP} (hP : E.on P) (hu : Kp s (toF u) 1 P) (u0 : toF u ≠ 0) :
    ∀ d, d ≤ 256 → Kq s (LS k u d).1 (E.smul (k / 2 ^ (256 - d)) P) ∧ Kq s (LS k u d).2 (E.smul (k / 2 ^ (256 - d) + 1) P)
  | 0, _ => by
    rw [Nat.sub_zero, Nat.div_eq_of_lt (by rw [← T256_eq]; exact hk)]
    refine ⟨?_, ?_⟩
    · show Kp s (toF 1) (toF 0) P2.zero
      rw [toF_one, toF_zero]
      exact kp_zero K0 s
    · show Kp s (toF u) (toF 1) (E.smul 1 P)
      rw [toF_one, E.smul_one hP]
      exact hu
  | d + 1, hd => by
    obtain ⟨h1, h2⟩ := LS_kq M hk hP hu u0 d (by omega)
    have e : 256 - d = 256 - (d + 1) + 1 := by omega
    have e2 : 255 - d = 256 - (d + 1) := by omega
    have dd : k / 2 ^ (256 - d) = k / 2 ^ (256 - (d + 1)) / 2 := by rw [e, Nat.pow_succ, Nat.div_div_eq_div_mul]
    rw [dd] at h1 h2
    show Kq s (lstep u (k / 2 ^ (255 - d) % 2) (LS k u d)).1 _ ∧ Kq s (lstep u (k / 2 ^ (255 - d) % 2) (LS k u d)).2 _
    rw [e2]
    generalize k / 2 ^ (256 - (d + 1)) = m at *
    generalize LS k u d = st at *
    have o1 := E.smul_on hP (m / 2)
    have o2 := E.smul_on hP (m / 2 + 1)
    unfold lstep
    split
    · rename_i hb
      have k1 := kq_joined M h2 h1 o2 o1 (u := u) (by
        show Kp s (toF u) 1 (E.add (E.smul (m / 2) P) (E.add (E.smul (m / 2) P) P).neg)
        rw [E.neg_neg_add hP o1]
        exact kp_neg hu) u0
      have k2 := kq_twice M h2 o2
      rw [← E.smul_add hP, show m / 2 + 1 + m / 2 = m by omega] at k1
      rw [← E.smul_add hP, show m / 2 + 1 + (m / 2 + 1) = m + 1 by omega] at k2
      exact ⟨k1, k2⟩
    · rename_i hb
      have k1 := kq_joined M h1 h2 o1 o2 (u := u) (by
        show Kp s (toF u) 1 (E.add (E.add (E.smul (m / 2) P) P) (E.smul (m / 2) P).neg)
        rw [E.diff hP o1]
        exact hu) u0
      have k2 := kq_twice M h1 o1
      rw [← E.smul_add hP, show m / 2 + (m / 2 + 1) = m + 1 by omega] at k1
      rw [← E.smul_add hP, show m / 2 + m / 2 = m by omega] at k2
      exact ⟨k2, k1⟩
/-! ### The number of a point -/
def plS (s : F) (p : P2 PP) : F := s * (1 + p.y) * Finv (1 - p.y)
section
variable {n : Nat} [NeZero n]
theorem val_id {s l X Z y i j : Fin n} (ss : s * s = 1) (hX : X = l * (1 + y)) (hZ : Z = s * l * (1 - y)) (hi : (1 - y) * i = 1) (hj : Z * j = 1) : Z * (X * j) = Z * (s * (1 + y) * i) := by
  have e1 : Z * (X * j) = X * (Z * j) := by clear ss hX hZ hi hj; grind
  rw [e1, hj, hZ]
  have e2 : s * l * (1 - y) * (s * (1 + y) * i) = s * s * (l * (1 + y)) * ((1 - y) * i) := by clear ss hX hZ hi hj e1; grind
  rw [e2, ss, hi, hX]
  clear ss hX hZ hi hj e1 e2
  grind
theorem kpu_id {s y i : Fin n} (ss : s * s = 1) (hi : (1 - y) * i = 1) : s * (s * (1 + y) * i) * (1 - y) = 1 * (1 + y) := by
  have e1 : s * (s * (1 + y) * i) * (1 - y) = s * s * (1 + y) * ((1 - y) * i) := by clear ss hi; grind
  rw [e1, ss, hi]; clear ss hi e1; grind
theorem mz1 (x : Fin n) : x * 0 = 0 := by grind
theorem mz2 (x : Fin n) : 0 * x = 0 := by grind
theorem sub_self0 (x : Fin n) : x - x = 0 := by grind
theorem one_sub_zero {y : Fin n} (h : 1 - y = 0) : y = 1 := by grind
theorem one_add_zero {y : Fin n} (h : 1 + y = 0) : y = 0 - 1 := by grind
theorem neg_add_one : (1 : Fin n) + (0 - 1) = 0 := by grind
end
theorem kp_val {s X Z : F} {p : P2 PP} (ss : s * s = 1) (h : Kp s X Z p) : X * Finv Z = plS s p := by
  obtain ⟨l, l0, hX, hZ⟩ := h.scale K0 ss
  have s0 : s ≠ 0 := fun h0 => by rw [h0, mz1] at ss; exact F_one_ne ss.symm
  unfold plS
  by_cases hy : 1 - p.y = 0
  · rw [hy, mz1] at hZ
    rw [hZ, hy, Finv_zero, mz1, mz1]
  · have hz : Z ≠ 0 := by rw [hZ]; exact K0.ne_mul (K0.ne_mul s0 l0) hy
    exact F_cancel hz (val_id ss hX hZ (mul_Finv hy) (mul_Finv hz))
theorem kp_of {s : F} {p : P2 PP} (ss : s * s = 1) (h : plS s p ≠ 0) : Kp s (plS s p) 1 p := by
  have hy : 1 - p.y ≠ 0 := fun h0 => h (by unfold plS; rw [h0, Finv_zero, mz1])
  exact ⟨kpu_id ss (mul_Finv hy), fun h1 => F_one_ne h1.2⟩
/-! ### Where the number is 0 -/
def Sm (p : P2 PP) : Prop := p.x = 0 ∧ (p.y = 1 ∨ p.y = 0 - 1)
section
variable {n : Nat} [NeZero n] {K : Fl n}
theorem xz_id {a d x y : Fin n} (h : a * x * x + y * y = 1 + d * x * x * y * y) (hy : y * y = 1) : (a - d) * (x * x) = 0 := by grind
theorem Ed.x_zero (E : Ed K) {p : P2 n} (h : E.on p) (hy : p.y * p.y = 1) : p.x = 0 := by
  have h1 := (K.mul_zero _ _ (xz_id h hy)).resolve_left E.ad_ne
  exact (K.mul_zero _ _ h1).elim id id
theorem sm_id1 {a d y z : Fin n} : y * z * (1 - d * 0 * 0 * y * z) = y * z - a * 0 * 0 := by grind
theorem sm_id2 {d y z : Fin n} : 0 * (1 + d * 0 * 0 * y * z) = 0 * z + y * 0 := by grind
theorem Ed.add_sm (E : Ed K) {p q : P2 n} (hp : E.on p) (hq : E.on q) (h : p.x = 0) (k : q.x = 0) : E.add p q = ⟨0, p.y * q.y⟩ := by
  refine E.add_of hp hq ?_ ?_
  · unfold Ed.dl; dsimp only; rw [h, k]; exact sm_id2
  · unfold Ed.dl; dsimp only; rw [h, k]; exact sm_id1
theorem pm_mul {y z : Fin n} (h : y = 1 ∨ y = 0 - 1) (k : z = 1 ∨ z = 0 - 1) : y * z = 1 ∨ y * z = 0 - 1 := by
  rcases h with rfl | rfl <;> rcases k with rfl | rfl
  · left; grind
  · right; grind
  · right; grind
  · left; grind
theorem pm_sq {y : Fin n} (h : y = 1 ∨ y = 0 - 1) : y * y = 1 := by rcases h with rfl | rfl <;> grind
end
theorem sm_smul {E : Ed K0} {P : P2 PP} (hP : E.on P) (h : Sm P) : ∀ k, Sm (E.smul k P)
  | 0 => ⟨rfl, .inl rfl⟩
  | k + 1 => by
    have ih := sm_smul hP h k
    rw [Ed.smul, E.add_sm (E.smul_on hP k) hP ih.1 h.1]
    exact ⟨rfl, pm_mul ih.2 h.2⟩
theorem sm_pl {s : F} {p : P2 PP} (h : Sm p) : plS s p = 0 := by
  unfold plS
  rcases h.2 with h1 | h1
  · rw [h1, sub_self0, Finv_zero, mz1]
  · rw [h1, neg_add_one, mz1, mz2]
theorem pl_sm {E : Ed K0} {s : F} (ss : s * s = 1) {p : P2 PP} (hp : E.on p) (h : plS s p = 0) : Sm p := by
  have s0 : s ≠ 0 := fun h0 => by rw [h0, mz1] at ss; exact F_one_ne ss.symm
  have hy : p.y = 1 ∨ p.y = 0 - 1 := by
    rcases F_mul_zero h with h1 | h1
    · exact .inr (one_add_zero ((F_mul_zero h1).resolve_left s0))
    · refine .inl (one_sub_zero (Classical.byContradiction fun h2 => ?_))
      have := mul_Finv h2
      rw [h1, mz1] at this
      exact F_one_ne this.symm
  exact ⟨E.x_zero hp (pm_sq hy), hy⟩
section
variable {n : Nat} [NeZero n]
theorem z_tw {X Z c : Fin n} (h : X * Z = 0) : (X + Z) * (X + Z) * ((X - Z) * (X - Z)) * (((X + Z) * (X + Z) - (X - Z) * (X - Z)) * ((X + Z) * (X + Z) + c * ((X + Z) * (X + Z) - (X - Z) * (X - Z)))) = 0 := by
  have e : (X + Z) * (X + Z) - (X - Z) * (X - Z) = 4 * (X * Z) := by clear h; grind
  rw [e, h]; clear e h; grind
end
theorem z_twice {q : Pt} (h : toF q.x * toF q.y = 0) : toF q.twice.x * toF q.twice.y = 0 := by
  unfold Pt.twice
  dsimp only
  simp only [toF_mul, toF_add, toF_sub]
  exact z_tw h
theorem z_joined {p q : Pt} {u : Nat} (h : toF u = 0) : toF (p.joined q u).x * toF (p.joined q u).y = 0 := by
  unfold Pt.joined
  dsimp only
  rw [toF_mul u, h, mz2, mz1]
theorem LS_z {k u : Nat} (h : toF u = 0) : ∀ d, toF (LS k u d).1.x * toF (LS k u d).1.y = 0 ∧ toF (LS k u d).2.x * toF (LS k u d).2.y = 0
  | 0 => by
    refine ⟨?_, ?_⟩
    · show toF 1 * toF 0 = 0
      rw [toF_zero, mz1]
    · show toF u * toF 1 = 0
      rw [h, mz2]
  | d + 1 => by
    obtain ⟨h1, h2⟩ := LS_z h (k := k) d
    show toF (lstep u _ (LS k u d)).1.x * toF (lstep u _ (LS k u d)).1.y = 0 ∧ toF (lstep u _ (LS k u d)).2.x * toF (lstep u _ (LS k u d)).2.y = 0
    unfold lstep
    split
    · exact ⟨z_joined h, z_twice h2⟩
    · exact ⟨z_twice h1, z_joined h⟩
theorem lad_f (k u : Nat) : toF (lad k u) = toF (LS k u 256).1.x * Finv (toF (LS k u 256).1.y) := by
  unfold lad; rw [toF_mul, toF_inv]
theorem lad_z {k u : Nat} (h : toF u = 0) : toF (lad k u) = 0 := by
  have h1 := (LS_z h (k := k) 256).1
  rw [lad_f]
  rcases F_mul_zero h1 with h2 | h2
  · rw [h2, mz2]
  · rw [h2, Finv_zero, mz1]
theorem lad_of {E : Ed K0} {s : F} (M : Mo E s cL) {k u : Nat} (hk : k < T256) {P : P2 PP} (hP : E.on P) (hu : toF u = plS s P) : toF (lad k u) = plS s (E.smul k P) := by
  by_cases h0 : toF u = 0
  · rw [lad_z h0, sm_pl (sm_smul hP (pl_sm M.ss hP (hu ▸ h0)) k)]
  · have hk1 : Kp s (toF u) 1 P := by rw [hu]; exact kp_of M.ss (hu ▸ h0)
    have h1 := (LS_kq M hk hP hk1 h0 256 (Nat.le_refl _)).1
    rw [Nat.sub_self, Nat.pow_zero, Nat.div_one] at h1
    rw [lad_f]
    exact kp_val M.ss h1
end Go.Proofs.Ytjiiccainfhgkaa
