/- LAGRANGE: so often as there are points, each makes Zero; and how many there are. Plain laws, over whatever field. -/
import Derived.Test.YtjiiccainfhgkaaEdw2
import Derived.Test.YtjiiccainfhgkaaPrime
namespace Go.Proofs.Ytjiiccainfhgkaa
set_option linter.unusedVariables false
set_option linter.unusedSectionVars false
variable {n : Nat} [NeZero n] {K : Fl n} (E : Ed K)
instance Ed.onDec (p : P2 n) : Decidable (E.on p) := by unfold Ed.on; infer_instance
def Ed.col (x : Fin n) : List (P2 n) := ((List.finRange n).filter fun y => decide (E.on ⟨x, y⟩)).map fun y => ⟨x, y⟩
def Ed.pts : List (P2 n) := (List.finRange n).flatMap E.col
theorem Ed.mem_pts {p : P2 n} : p ∈ E.pts ↔ E.on p := by
  unfold Ed.pts Ed.col
  simp only [List.mem_flatMap, List.mem_map, List.mem_filter, List.mem_finRange, true_and, decide_eq_true_iff]
  constructor
  · rintro ⟨x, y, h, rfl⟩; exact h
  · intro h; exact ⟨p.x, p.y, h, rfl⟩
theorem Ed.nodup_pts : E.pts.Nodup := by
  unfold Ed.pts List.Nodup
  rw [List.pairwise_flatMap]
  refine ⟨fun x _ => ?_, ?_⟩
  · unfold Ed.col
    rw [List.pairwise_map]
    exact (List.Pairwise.filter _ (List.nodup_finRange n)).imp fun h he => h (congrArg P2.y he)
  · refine (List.nodup_finRange n).imp fun {a b} h x hx y hy he => ?_
    unfold Ed.col at hx hy
    simp only [List.mem_map] at hx hy
    obtain ⟨_, _, rfl⟩ := hx
    obtain ⟨_, _, rfl⟩ := hy
    exact h (congrArg P2.x he)
theorem sq_two (K : Fl n) {r y : Fin n} (h : y * y = r * r) : y = r ∨ y = 0 - r := by
  have h2 : (y - r) * (y + r) = 0 := by grind
  rcases K.mul_zero _ _ h2 with h1 | h1
  · left; clear h h2; grind
  · right; clear h h2; grind
theorem one_sub_ne_id {d x i : Fin n} (h : 1 - d * x * x = 0) (hi : x * i = 1) : i * i = d := by grind
theorem Ed.one_sub_ne (x : Fin n) : 1 - E.d * x * x ≠ 0 := fun h => by
  have hx : x ≠ 0 := fun h0 => by
    rw [h0] at h
    exact K.one_ne (by grind)
  exact E.nd _ (one_sub_ne_id h (K.mul_inv _ hx))
theorem same_sq_id {a d x y r : Fin n} (h : a * x * x + y * y = 1 + d * x * x * y * y) (k : a * x * x + r * r = 1 + d * x * x * r * r) : (1 - d * x * x) * (y * y - r * r) = 0 := by grind
theorem Ed.same_sq {x y r : Fin n} (h : E.on ⟨x, y⟩) (k : E.on ⟨x, r⟩) : y * y = r * r := by
  rcases K.mul_zero _ _ (same_sq_id h k) with h1 | h1
  · exact absurd h1 (E.one_sub_ne x)
  · exact sub_zero_eq h1
theorem Ed.col_two (x : Fin n) : (E.col x).length ≤ 2 := by
  unfold Ed.col
  rw [List.length_map]
  have nd := List.Pairwise.filter (fun y => decide (E.on ⟨x, y⟩)) (List.nodup_finRange n)
  have ho : ∀ y ∈ (List.finRange n).filter (fun y => decide (E.on ⟨x, y⟩)), E.on ⟨x, y⟩ := fun y hy => by
    rw [List.mem_filter] at hy; exact of_decide_eq_true hy.2
  generalize (List.finRange n).filter (fun y => decide (E.on ⟨x, y⟩)) = l at *
  cases l with
  | nil => simp
  | cons r l =>
    have hs : (r :: l) ⊆ [r, 0 - r] := fun y hy => by
      rcases sq_two K (E.same_sq (ho y hy) (ho r List.mem_cons_self)) with h | h <;> simp [h]
    exact List.Nodup.length_le_of_subset nd hs
theorem flat_two {α β : Type} {f : α → List β} (h : ∀ x, (f x).length ≤ 2) : ∀ l : List α, (l.flatMap f).length ≤ 2 * l.length
  | [] => by simp
  | x :: l => by
    have := flat_two h l
    have := h x
    rw [List.flatMap_cons, List.length_append, List.length_cons]
    omega
theorem Ed.pts_le : E.pts.length ≤ 2 * n := by
  have := flat_two E.col_two (List.finRange n)
  rwa [List.length_finRange] at this
theorem Ed.pts_pos : 0 < E.pts.length := List.length_pos_of_mem (E.mem_pts.2 E.zero_on)
/-! ### The sum of all points -/
def Ed.total : List (P2 n) → P2 n
  | [] => P2.zero
  | p :: l => E.add p (Ed.total l)
theorem Ed.total_on : ∀ l : List (P2 n), (∀ p ∈ l, E.on p) → E.on (E.total l)
  | [], _ => E.zero_on
  | p :: l, h => E.add_on (h p List.mem_cons_self) (Ed.total_on l fun q hq => h q (List.mem_cons_of_mem _ hq))
theorem Ed.left_comm {p q r : P2 n} (hp : E.on p) (hq : E.on q) (hr : E.on r) : E.add p (E.add q r) = E.add q (E.add p r) := by
  rw [← E.add_assoc hp hq hr, E.add_comm p q, E.add_assoc hq hp hr]
theorem Ed.total_perm {l m : List (P2 n)} (h : l.Perm m) : (∀ p ∈ l, E.on p) → E.total l = E.total m := by
  induction h with
  | nil => intro _; rfl
  | cons x h ih =>
    intro ho
    show E.add x _ = E.add x _
    rw [ih fun q hq => ho q (List.mem_cons_of_mem _ hq)]
  | swap x y l =>
    intro ho
    exact E.left_comm (ho y (by simp)) (ho x (by simp)) (E.total_on l fun q hq => ho q (by simp [hq]))
  | trans h1 h2 i1 i2 =>
    intro ho
    rw [i1 ho, i2 fun q hq => ho q (h1.mem_iff.2 hq)]
theorem Ed.total_map {P : P2 n} (hP : E.on P) : ∀ l : List (P2 n), (∀ p ∈ l, E.on p) → E.total (l.map (E.add P)) = E.add (E.smul l.length P) (E.total l)
  | [], _ => (E.add_zero E.zero_on).symm
  | p :: l, h => by
    have ho := fun q hq => h q (List.mem_cons_of_mem p hq)
    have ih := Ed.total_map hP l ho
    show E.add (E.add P p) (E.total (l.map (E.add P))) = E.add (E.add (E.smul l.length P) P) (E.add p (E.total l))
    rw [ih, E.add_four hP (h p List.mem_cons_self) (E.smul_on hP _) (E.total_on l ho), E.add_comm P (E.smul _ P)]
theorem Ed.add_left_inj {P p q : P2 n} (hP : E.on P) (hp : E.on p) (hq : E.on q) (h : E.add P p = E.add P q) : p = q :=
  E.cancel_right hp hq hP (by rw [E.add_comm p, E.add_comm q]; exact h)
theorem Ed.shifted {P : P2 n} (hP : E.on P) : (E.pts.map (E.add P)).Perm E.pts := by
  have hnd : (E.pts.map (E.add P)).Nodup := by
    unfold List.Nodup
    rw [List.pairwise_map]
    exact E.nodup_pts.imp_of_mem fun {a b} ha hb h he => h (E.add_left_inj hP (E.mem_pts.1 ha) (E.mem_pts.1 hb) he)
  rw [List.perm_ext_iff_of_nodup hnd E.nodup_pts]
  intro a
  rw [List.mem_map, E.mem_pts]
  constructor
  · rintro ⟨p, hp, rfl⟩
    exact E.add_on hP (E.mem_pts.1 hp)
  · intro ha
    refine ⟨E.add P.neg a, E.mem_pts.2 (E.add_on (E.neg_on hP) ha), ?_⟩
    rw [← E.add_assoc hP (E.neg_on hP) ha, E.add_neg hP, E.zero_add ha]
theorem Ed.lagrange {P : P2 n} (hP : E.on P) : E.smul E.pts.length P = P2.zero := by
  have ho : ∀ p ∈ E.pts, E.on p := fun p h => E.mem_pts.1 h
  have h1 := E.total_map hP E.pts ho
  have h2 := E.total_perm (E.shifted hP) (fun p h => by
    rw [List.mem_map] at h
    obtain ⟨q, hq, rfl⟩ := h
    exact E.add_on hP (ho q hq))
  have ht := E.total_on E.pts ho
  refine E.cancel_right (E.smul_on hP _) E.zero_on ht ?_
  rw [E.zero_add ht, ← h1, h2]
/-! ### How many there are -/
theorem Ed.smul_mul_zero {P : P2 n} (hP : E.on P) {j : Nat} (h : E.smul j P = P2.zero) (k : Nat) : E.smul (k * j) P = P2.zero := by
  rw [← E.smul_smul hP, h, E.smul_zero_pt]
theorem Ed.smul_mod {P : P2 n} (hP : E.on P) {j : Nat} (h : E.smul j P = P2.zero) (k : Nat) : E.smul (k % j) P = E.smul k P := by
  have e : k = k / j * j + k % j := by rw [Nat.mul_comm]; exact (Nat.div_add_mod k j).symm
  have : E.smul k P = E.smul (k / j * j + k % j) P := by rw [← e]
  rw [this, E.smul_add hP, E.smul_mul_zero hP h, E.zero_add (E.smul_on hP _)]
theorem Ed.smul_gcd {P : P2 n} (hP : E.on P) (j k : Nat) : E.smul j P = P2.zero → E.smul k P = P2.zero → E.smul (Nat.gcd j k) P = P2.zero := by
  induction j, k using Nat.gcd.induction with
  | H0 k => intro _ h; rw [Nat.gcd_zero_left]; exact h
  | H1 j k hj ih =>
    intro h1 h2
    rw [Nat.gcd_rec]
    exact ih (by rw [E.smul_mod hP h1]; exact h2) h1
/-- What is 0 modulo a prime only: whose so-manieth is Zero. -/
theorem Ed.smul_prime {P : P2 n} (hP : E.on P) {L : Nat} (hL : Prime L) (h : E.smul L P = P2.zero) (hne : P ≠ P2.zero) (k : Nat) : E.smul k P = P2.zero ↔ k % L = 0 := by
  constructor
  · intro hk
    refine Nat.mod_eq_zero_of_dvd (Classical.byContradiction fun hd => hne ?_)
    have := E.smul_gcd hP k L hk h
    rwa [hL.coprime hd, E.smul_one hP] at this
  · intro hk
    rw [← E.smul_mod hP h, hk]; rfl
theorem Ed.eight {T : P2 n} (hT : E.on T) (h8 : E.smul 8 T = P2.zero) (h4 : E.smul 4 T ≠ P2.zero) {k : Nat} (hk : E.smul k T = P2.zero) : 8 ∣ k := by
  have hm : E.smul (k % 8) T = P2.zero := by rw [E.smul_mod hT h8]; exact hk
  have hlt : k % 8 < 8 := Nat.mod_lt _ (by decide)
  have key : ∀ j, j < 8 → j ≠ 0 → E.smul j T = P2.zero → False := by
    intro j hj h0 hz
    have g := E.smul_gcd hT j 8 hz h8
    have hg : ∀ j, j < 8 → j ≠ 0 → Nat.gcd j 8 ∣ 4 := by decide
    obtain ⟨c, hc⟩ := hg j hj h0
    exact h4 (by rw [hc, Nat.mul_comm]; exact E.smul_mul_zero hT g c)
  exact Nat.dvd_of_mod_eq_zero (Classical.byContradiction fun h0 => key _ hlt h0 hm)
theorem Ed.order {B T : P2 n} {L : Nat} (hL : Prime L) (hB : E.on B) (hB0 : E.smul L B = P2.zero) (hB1 : B ≠ P2.zero) (hT : E.on T) (h8 : E.smul 8 T = P2.zero) (h4 : E.smul 4 T ≠ P2.zero) (hc : Nat.Coprime 8 L) (hbig : 2 * n < 16 * L) {P : P2 n} (hP : E.on P) : E.smul (8 * L) P = P2.zero := by
  have d1 : 8 ∣ E.pts.length := E.eight hT h8 h4 (E.lagrange hT)
  have d2 : L ∣ E.pts.length := Nat.dvd_of_mod_eq_zero ((E.smul_prime hB hL hB0 hB1 _).1 (E.lagrange hB))
  obtain ⟨c, h⟩ := Nat.Coprime.mul_dvd_of_dvd_of_dvd hc d1 d2
  have hle := E.pts_le
  have hpos := E.pts_pos
  have hl := E.lagrange hP
  have hL0 := hL.pos
  have h1 : c = 1 := by
    have a : c < 2 := by
      refine Nat.lt_of_not_le fun h2 => ?_
      have := Nat.mul_le_mul_left (8 * L) h2
      omega
    have b : c ≠ 0 := fun h0 => by rw [h0, Nat.mul_zero] at h; omega
    omega
  rw [h, h1, Nat.mul_one] at hl
  exact hl
end Go.Proofs.Ytjiiccainfhgkaa
