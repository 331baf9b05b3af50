/- Numbers as bytes, the greatest first, in plain terms. -/
import Derived.Test.YtpcockfnljdilaaBitLaws
import Derived.Test.YtpcockfnljdilaaBytes
namespace Go.Proofs.Ytpcockfnljdilaa
set_option linter.unusedVariables false
set_option linter.unusedSimpArgs false
/-- n bytes of a number. -/
def dg : Nat → Nat → List Nat
  | 0, _ => []
  | n + 1, a => dg n (a / 256) ++ [a % 256]
theorem dg_len : ∀ n a, (dg n a).length = n
  | 0, _ => rfl
  | n + 1, a => by rw [dg, List.length_append, dg_len n]; rfl
theorem dg_byl : ∀ n a, ∀ x ∈ dg n a, x < 256
  | 0, _ => fun x hx => by cases hx
  | n + 1, a => fun x hx => by
    rcases List.mem_append.1 hx with hx | hx
    · exact dg_byl n _ x hx
    · simp only [List.mem_singleton] at hx; subst hx; exact Nat.mod_lt _ (by decide)
theorem pow8 (k : Nat) : 2 ^ (8 * (k + 1)) = 256 * 2 ^ (8 * k) := by rw [Nat.mul_succ, Nat.pow_add, Nat.mul_comm]
theorem byteN_div (a k : Nat) : byteN (a / 256) k = byteN a (k + 1) := by rw [byteN, byteN, Nat.div_div_eq_div_mul, pow8]
theorem dg_get : ∀ {n a i : Nat}, i < n → (dg n a).getD i 0 = byteN a (n - 1 - i)
  | 0, _, _, h => absurd h (by omega)
  | n + 1, a, i, h => by
    rw [dg, List.getD_eq_getElem?_getD]
    by_cases hi : i < n
    · rw [List.getElem?_append_left (by rw [dg_len]; exact hi), ← List.getD_eq_getElem?_getD, dg_get hi, byteN_div]
      congr 1; omega
    · obtain rfl : i = n := by omega
      rw [List.getElem?_append_right (by rw [dg_len]; exact Nat.le_refl _), dg_len, Nat.sub_self]
      simp [byteN]
def valL (p : List Nat) : Nat := p.foldl (fun x d => x * 256 + d) 0
theorem valL_snoc (p : List Nat) (d : Nat) : valL (p ++ [d]) = valL p * 256 + d := by simp [valL]
theorem valL_dg : ∀ n a, valL (dg n a) = a % 2 ^ (8 * n)
  | 0, a => by rw [Nat.mul_zero, Nat.pow_zero, Nat.mod_one]; rfl
  | n + 1, a => by
    rw [dg, valL_snoc, valL_dg n, pow8]
    have h1 := Nat.mod_mul (x := a) (a := 256) (b := 2 ^ (8 * n))
    rw [h1]; omega
theorem snoc_ind {M : List Nat → Prop} (h0 : M []) (h1 : ∀ p d, M p → M (p ++ [d])) (p : List Nat) : M p := by
  have : ∀ n (p : List Nat), p.length = n → M p := fun n => by
    induction n with
    | zero => intro p hp; rw [List.eq_nil_of_length_eq_zero hp]; exact h0
    | succ n ih =>
      intro p hp
      have hne : p ≠ [] := fun h => by rw [h] at hp; cases hp
      have e := (List.dropLast_concat_getLast hne)
      rw [← e]
      exact h1 _ _ (ih _ (by rw [List.length_dropLast, hp]; rfl))
  exact this _ p rfl
theorem dg_valL (p : List Nat) : (∀ x ∈ p, x < 256) → dg p.length (valL p) = p := by
  refine snoc_ind (M := fun p => (∀ x ∈ p, x < 256) → dg p.length (valL p) = p) (fun _ => rfl) (fun p d ih h => ?_) p
  have hd := h d (by simp)
  rw [List.length_append, List.length_singleton, dg, valL_snoc, show (valL p * 256 + d) / 256 = valL p by omega, show (valL p * 256 + d) % 256 = d by omega, ih fun x hx => h x (by simp [hx])]
theorem valL_lt (p : List Nat) (h : ∀ x ∈ p, x < 256) : valL p < 2 ^ (8 * p.length) := by
  have e := dg_valL p h
  have h1 := valL_dg p.length (valL p)
  rw [e] at h1
  rw [h1]
  exact Nat.mod_lt _ (Nat.two_pow_pos _)
theorem valL_app (p q : List Nat) : valL (p ++ q) = valL p * 2 ^ (8 * q.length) + valL q := by
  refine snoc_ind (M := fun q => valL (p ++ q) = valL p * 2 ^ (8 * q.length) + valL q) (by simp [valL]) (fun q d ih => ?_) q
  rw [← List.append_assoc, valL_snoc, ih, valL_snoc, List.length_append, List.length_singleton, pow8]
  rw [Nat.add_mul, Nat.mul_assoc, Nat.mul_comm (2 ^ (8 * q.length)) 256, Nat.add_assoc]
theorem valL_cons (d : Nat) (q : List Nat) : valL (d :: q) = d * 2 ^ (8 * q.length) + valL q := by
  have := valL_app [d] q
  rw [show [d] ++ q = d :: q from rfl] at this
  rw [this]; simp [valL]
/-- How many bytes. -/
def nbL (a : Nat) : Nat := blen a / 8 + 1
def numL (a : Nat) : List Nat := dg (nbL a) a
theorem numL_len (a : Nat) : (numL a).length = nbL a := dg_len _ _
/-- An error's number, and the number. -/
def readN (p : List Nat) : Nat × Nat :=
  if p.length = 0 then (3, 0) else if p.getD 0 0 ≥ 128 ∨ (p.getD 0 0 = 0 ∧ p.length > 1 ∧ p.getD 1 0 < 128) then (4, 0)
  else if p.length > 33 ∨ (p.length = 33 ∧ p.getD 0 0 > 0) then (2, 0) else (0, valL p)
theorem nbL_top (a : Nat) : a < 2 ^ (8 * (nbL a - 1) + 7) := blen_le.1 (by unfold nbL; omega)
theorem nbL_low {a n : Nat} (hn : 1 ≤ n) (h : n < nbL a) : 2 ^ (8 * (n - 1) + 7) ≤ a := lt_blen.1 (by unfold nbL at h; omega)
theorem nbL_le {a : Nat} (h : a < T256) : nbL a ≤ 33 := by
  have : blen a ≤ 256 := blen_le.2 (by rw [← T256_eq]; exact h)
  unfold nbL; omega
theorem byteN_small {a k : Nat} (h : a < 2 ^ (8 * k + 7)) : byteN a k < 128 ∧ byteN a k = a / 2 ^ (8 * k) := by
  have h1 : a / 2 ^ (8 * k) < 128 := by
    rw [Nat.div_lt_iff_lt_mul (Nat.two_pow_pos _)]
    rw [Nat.pow_add, Nat.mul_comm] at h
    exact h
  unfold byteN
  rw [Nat.mod_eq_of_lt (by omega)]
  exact ⟨h1, rfl⟩
theorem readN_numL {a : Nat} (h : a < T256) : readN (numL a) = (0, a) := by
  have hn : 1 ≤ nbL a := by unfold nbL; omega
  have hle := nbL_le h
  have htop := nbL_top a
  have g0 : (numL a).getD 0 0 = byteN a (nbL a - 1) := by rw [numL, dg_get hn]; rfl
  obtain ⟨b1, b2⟩ := byteN_small htop
  rw [readN, numL_len, if_neg (by omega), g0, if_neg, if_neg, numL, valL_dg]
  · refine Prod.ext rfl ?_
    refine Nat.mod_eq_of_lt (Nat.lt_of_lt_of_le htop (Nat.pow_le_pow_right (by decide) (by omega)))
  · rintro (h1 | ⟨h1, h2⟩)
    · omega
    · rw [b2, h1] at h2
      have : a / 2 ^ (8 * (33 - 1)) = 0 := Nat.div_eq_of_lt (by rw [← T256_eq]; exact h)
      omega
  · rintro (h1 | ⟨h1, h2, h3⟩)
    · omega
    · have hlow := nbL_low (a := a) (n := nbL a - 1) (by omega) (by omega)
      have g1 : (numL a).getD 1 0 = byteN a (nbL a - 2) := by rw [numL, dg_get h2]; congr 1
      rw [g1] at h3
      rw [b2] at h1
      have h4 : a < 2 ^ (8 * (nbL a - 1)) := by
        rcases Nat.lt_or_ge a (2 ^ (8 * (nbL a - 1))) with h | h
        · exact h
        · have := Nat.div_pos h (Nat.two_pow_pos _); omega
      have e : nbL a - 1 = (nbL a - 2) + 1 := by omega
      have h5 : a / 2 ^ (8 * (nbL a - 2)) < 256 := by
        rw [Nat.div_lt_iff_lt_mul (Nat.two_pow_pos _), ← pow8, ← e]; exact h4
      unfold byteN at h3
      rw [Nat.mod_eq_of_lt h5, Nat.div_lt_iff_lt_mul (Nat.two_pow_pos _)] at h3
      rw [show nbL a - 1 - 1 = nbL a - 2 by omega, Nat.pow_add, Nat.mul_comm] at hlow
      omega
theorem numL_readN {s : List Nat} (hb : ∀ x ∈ s, x < 256) (h : (readN s).1 = 0) : numL (readN s).2 = s ∧ (readN s).2 < T256 := by
  unfold readN at h ⊢
  by_cases c1 : s.length = 0
  · rw [if_pos c1] at h; simp at h
  by_cases c2 : s.getD 0 0 ≥ 128 ∨ (s.getD 0 0 = 0 ∧ s.length > 1 ∧ s.getD 1 0 < 128)
  · rw [if_neg c1, if_pos c2] at h; simp at h
  by_cases c3 : s.length > 33 ∨ (s.length = 33 ∧ s.getD 0 0 > 0)
  · rw [if_neg c1, if_neg c2, if_pos c3] at h; simp at h
  rw [if_neg c1, if_neg c2, if_neg c3]
  dsimp only
  cases s with
  | nil => simp at c1
  | cons d r =>
    simp only [List.getD_cons_zero, List.length_cons] at c2 c3
    have hr := valL_lt r fun x hx => hb x (by simp [hx])
    have hv := valL_cons d r
    have hd : d < 128 := by omega
    have hup : valL (d :: r) < 2 ^ (8 * r.length + 7) := by
      rw [hv, Nat.pow_add]
      have : d * 2 ^ (8 * r.length) + 2 ^ (8 * r.length) ≤ 128 * 2 ^ (8 * r.length) := by
        rw [← Nat.succ_mul]; exact Nat.mul_le_mul_right _ hd
      omega
    have hnb : nbL (valL (d :: r)) = r.length + 1 := by
      have u := blen_le.2 hup
      have l : 8 * r.length ≤ blen (valL (d :: r)) := by
        rcases Nat.eq_zero_or_pos r.length with hz | hz
        · omega
        · cases r with
          | nil => simp at hz
          | cons e q =>
            simp only [List.getD_cons_succ, List.getD_cons_zero, List.length_cons] at c2 hv ⊢
            have hq := valL_cons e q
            by_cases hd0 : d = 0
            · have he : 128 ≤ e := by omega
              have : 2 ^ (8 * q.length + 7) ≤ valL (d :: e :: q) := by
                rw [hv, hd0, Nat.zero_mul, Nat.zero_add, hq, Nat.pow_add]
                have := Nat.mul_le_mul_right (2 ^ (8 * q.length)) he
                omega
              have := lt_blen.2 this
              omega
            · have : 2 ^ (8 * (q.length + 1)) ≤ valL (d :: e :: q) := by
                rw [hv]
                have := Nat.mul_le_mul_right (2 ^ (8 * (q.length + 1))) (show 1 ≤ d by omega)
                omega
              have := lt_blen.2 this
              omega
      unfold nbL; omega
    refine ⟨?_, ?_⟩
    · rw [numL, hnb]
      exact dg_valL (d :: r) hb
    · rw [T256_eq]
      by_cases h33 : r.length + 1 = 33
      · have hd0 : d = 0 := by omega
        rw [hv, hd0, Nat.zero_mul, Nat.zero_add]
        have e : r.length = 32 := by omega
        rw [e] at hr
        exact hr
      · exact Nat.lt_of_lt_of_le hup (Nat.pow_le_pow_right (by decide) (by omega))
/-- A greater one has no shorter text. -/
theorem nbL_mono {a b : Nat} (h : a < b) : nbL a ≤ nbL b := by
  have : blen a ≤ blen b := blen_le.2 (Nat.lt_trans h (blen_le.1 (Nat.le_refl _)))
  unfold nbL; omega
/-- The first place where two texts are not alike. -/
theorem first_diff : ∀ {p q : List Nat}, (∀ x ∈ p, x < 256) → (∀ x ∈ q, x < 256) → p.length = q.length → valL p < valL q → ∃ i, i < p.length ∧ (∀ j, j < i → p.getD j 0 = q.getD j 0) ∧ p.getD i 0 < q.getD i 0
  | [], [], _, _, _, h => absurd h (Nat.lt_irrefl _)
  | [], _ :: _, _, _, h, _ => by simp at h
  | _ :: _, [], _, _, h, _ => by simp at h
  | x :: p, y :: q, hp, hq, hl, h => by
    simp only [List.length_cons, Nat.add_right_cancel_iff] at hl
    rw [valL_cons, valL_cons, hl] at h
    rcases Nat.lt_trichotomy x y with hxy | hxy | hxy
    · exact ⟨0, by simp, fun j hj => absurd hj (by omega), by simpa using hxy⟩
    · subst hxy
      obtain ⟨i, h1, h2, h3⟩ := first_diff (fun z hz => hp z (by simp [hz])) (fun z hz => hq z (by simp [hz])) hl (by omega)
      refine ⟨i + 1, by simpa using h1, fun j hj => ?_, by simpa using h3⟩
      cases j with
      | zero => simp
      | succ j => simpa using h2 j (by omega)
    · exfalso
      have h1 := valL_lt q fun z hz => hq z (by simp [hz])
      have h2 := Nat.mul_le_mul_right (2 ^ (8 * q.length)) (show y + 1 ≤ x from hxy)
      rw [Nat.succ_mul] at h2
      omega
end Go.Proofs.Ytpcockfnljdilaa
