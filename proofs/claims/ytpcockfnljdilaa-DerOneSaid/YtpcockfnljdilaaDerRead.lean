/- Items read, in plain terms. -/
import Derived.Test.YtpcockfnljdilaaDerPlain
namespace Go.Proofs.Ytpcockfnljdilaa
set_option linter.unusedVariables false
set_option linter.unusedSimpArgs false
/-- An error's number, how long, and of how many bytes that is. -/
def lenD : List Nat → Nat × Nat × Nat
  | [] => (3, 0, 0)
  | k :: r => if k < 128 then (0, k, 1) else if k = 128 ∨ k > 130 then (4, 0, 0) else if r.length + 1 < k - 127 then (3, 0, 0)
    else if k = 129 then (if r.getD 0 0 < 128 then (4, 0, 0) else (0, r.getD 0 0, 2))
    else (if r.getD 0 0 * 256 + r.getD 1 0 < 256 then (4, 0, 0) else (0, r.getD 0 0 * 256 + r.getD 1 0, 3))
/-- An error's number, the first item, and of how many bytes it is. -/
def firstD : List Nat → Nat × (Nat × List Nat) × Nat
  | [] => (3, (0, []), 0)
  | t :: r => if (lenD r).1 ≠ 0 then ((lenD r).1, (0, []), 0) else if (lenD r).2.1 > 4096 then (2, (0, []), 0) else if (lenD r).2.1 > r.length - (lenD r).2.2 then (3, (0, []), 0)
    else (0, (t, (r.drop (lenD r).2.2).take (lenD r).2.1), 1 + (lenD r).2.2 + (lenD r).2.1)
theorem lenD_a {k : Nat} (h : k < 128) (r : List Nat) : lenD (k :: r) = (0, k, 1) := by rw [lenD, if_pos h]
theorem lenD_b {k : Nat} (h : k = 128 ∨ k > 130) (r : List Nat) : lenD (k :: r) = (4, 0, 0) := by rw [lenD, if_neg (by omega), if_pos h]
theorem lenD_129s : lenD [129] = (3, 0, 0) := rfl
theorem lenD_129 (b : Nat) (r : List Nat) : lenD (129 :: b :: r) = if b < 128 then (4, 0, 0) else (0, b, 2) := by
  rw [lenD, if_neg (by omega), if_neg (by omega), if_neg (by simp only [List.length_cons]; omega), if_pos rfl]; rfl
theorem lenD_130s : lenD [130] = (3, 0, 0) := rfl
theorem lenD_130t (b : Nat) : lenD [130, b] = (3, 0, 0) := rfl
theorem lenD_130 (b c : Nat) (r : List Nat) : lenD (130 :: b :: c :: r) = if b * 256 + c < 256 then (4, 0, 0) else (0, b * 256 + c, 3) := by
  rw [lenD, if_neg (by omega), if_neg (by omega), if_neg (by simp only [List.length_cons]; omega), if_neg (by omega)]; rfl
theorem firstD_cons (t : Nat) (r : List Nat) : firstD (t :: r) = if (lenD r).1 ≠ 0 then ((lenD r).1, (0, []), 0) else if (lenD r).2.1 > 4096 then (2, (0, []), 0) else if (lenD r).2.1 > r.length - (lenD r).2.2 then (3, (0, []), 0)
    else (0, (t, (r.drop (lenD r).2.2).take (lenD r).2.1), 1 + (lenD r).2.2 + (lenD r).2.1) := rfl
/-- What stands ahead: the ways. -/
theorem lenD_ways {M : List Nat → Prop} (h0 : M []) (h1 : ∀ k r, k < 128 → M (k :: r)) (h2 : ∀ k r, k = 128 ∨ k > 130 → M (k :: r)) (h3 : M [129]) (h4 : ∀ b r, M (129 :: b :: r)) (h5 : M [130]) (h6 : ∀ b, M [130, b]) (h7 : ∀ b c r, M (130 :: b :: c :: r)) : ∀ r, M r
  | [] => h0
  | k :: r => by
    by_cases c1 : k < 128
    · exact h1 k r c1
    · by_cases c2 : k = 128 ∨ k > 130
      · exact h2 k r c2
      · by_cases c3 : k = 129
        · subst c3
          cases r with
          | nil => exact h3
          | cons b r => exact h4 b r
        · obtain rfl : k = 130 := by omega
          match r with
          | [] => exact h5
          | [b] => exact h6 b
          | b :: c :: r => exact h7 b c r
theorem lenD_at : ∀ {r : List Nat}, (lenD r).1 = 0 → 1 ≤ (lenD r).2.2 ∧ (lenD r).2.2 ≤ 3 ∧ (lenD r).2.2 ≤ r.length := fun {r} => by
  refine lenD_ways (M := fun r => (lenD r).1 = 0 → 1 ≤ (lenD r).2.2 ∧ (lenD r).2.2 ≤ 3 ∧ (lenD r).2.2 ≤ r.length) ?_ ?_ ?_ ?_ ?_ ?_ ?_ ?_ r
  · intro h; simp [lenD] at h
  · intro k r hk _; rw [lenD_a hk]; simp
  · intro k r hk h; rw [lenD_b hk] at h; simp at h
  · intro h; simp [lenD_129s] at h
  · intro b r h
    rw [lenD_129] at h ⊢
    by_cases c : b < 128
    · rw [if_pos c] at h; simp at h
    · rw [if_neg c]; simp
  · intro h; simp [lenD_130s] at h
  · intro b h; simp [lenD_130t] at h
  · intro b c r h
    rw [lenD_130] at h ⊢
    by_cases c5 : b * 256 + c < 256
    · rw [if_pos c5] at h; simp at h
    · rw [if_neg c5]; simp
/-- What was written is read as it was, whatever stands behind it. -/
theorem lenD_head {t n : Nat} (hn : n ≤ 4096) (s : List Nat) : ∃ r a, headL t n = t :: r ∧ lenD (r ++ s) = (0, n, a) ∧ r.length = a := by
  unfold headL
  by_cases c1 : n < 128
  · exact ⟨[n], 1, by simp [c1], lenD_a c1 _, rfl⟩
  · by_cases c2 : n < 256
    · refine ⟨[129, n], 2, by simp [c1, c2], ?_, rfl⟩
      show lenD (129 :: n :: s) = _
      rw [lenD_129, if_neg c1]
    · refine ⟨[130, n / 256 % 256, n % 256], 3, by simp [c1, c2], ?_, rfl⟩
      have e : n / 256 % 256 * 256 + n % 256 = n := by omega
      show lenD (130 :: (n / 256 % 256) :: (n % 256) :: s) = _
      rw [lenD_130, e, if_neg c2]
theorem firstD_wr1 {x : Nat × List Nat} (hx : x.2.length ≤ 4096) (s : List Nat) : firstD (wr1 x ++ s) = (0, x, (wr1 x).length) := by
  obtain ⟨t, q⟩ := x
  dsimp only at hx
  obtain ⟨r, a, h1, h2, h3⟩ := lenD_head (t := t) hx (q ++ s)
  have h4 : wr1 (t, q) ++ s = t :: (r ++ (q ++ s)) := by rw [wr1, h1]; simp
  have h5 : (r ++ (q ++ s)).length - a = q.length + s.length := by simp only [List.length_append]; omega
  have h6 : ((r ++ (q ++ s)).drop a).take q.length = q := by rw [List.drop_left' h3, List.take_left]
  have h7 : (wr1 (t, q)).length = 1 + a + q.length := by rw [wr1, h1]; simp only [List.length_append, List.length_cons]; omega
  rw [h4, firstD_cons, h2]
  dsimp only
  rw [h5, h6, h7, if_neg (by simp), if_neg (by omega), if_neg (by omega)]
/-- What is read is written so. -/
theorem lenD_back : ∀ {r : List Nat}, (∀ y ∈ r, y < 256) → (lenD r).1 = 0 → ∀ t : Nat, headL t (lenD r).2.1 = t :: r.take (lenD r).2.2 := fun {r} => by
  refine lenD_ways (M := fun r => (∀ y ∈ r, y < 256) → (lenD r).1 = 0 → ∀ t : Nat, headL t (lenD r).2.1 = t :: r.take (lenD r).2.2) ?_ ?_ ?_ ?_ ?_ ?_ ?_ ?_ r
  · intro _ h; simp [lenD] at h
  · intro k r hk _ _ t; rw [lenD_a hk]; simp [headL, hk]
  · intro k r hk _ h; rw [lenD_b hk] at h; simp at h
  · intro _ h; simp [lenD_129s] at h
  · intro b r hb h t
    rw [lenD_129] at h ⊢
    by_cases c : b < 128
    · rw [if_pos c] at h; simp at h
    · rw [if_neg c]
      have h1 : b < 256 := hb b (by simp)
      simp [headL, c, h1]
  · intro _ h; simp [lenD_130s] at h
  · intro b _ h; simp [lenD_130t] at h
  · intro b c r hb h t
    rw [lenD_130] at h ⊢
    by_cases c5 : b * 256 + c < 256
    · rw [if_pos c5] at h; simp at h
    · rw [if_neg c5]
      have h1 : b < 256 := hb b (by simp)
      have h2 : c < 256 := hb c (by simp)
      have e1 : (b * 256 + c) / 256 % 256 = b := by omega
      have e2 : (b * 256 + c) % 256 = c := by omega
      dsimp only
      rw [headL, if_neg (by omega), if_neg c5, e1, e2]
      rfl
theorem firstD_back {p : List Nat} (hb : ∀ y ∈ p, y < 256) {x : Nat × List Nat} {n : Nat} (h : firstD p = (0, x, n)) : p = wr1 x ++ p.drop n ∧ n = (wr1 x).length ∧ x.2.length ≤ 4096 ∧ x.1 < 256 := by
  cases p with
  | nil => simp [firstD] at h
  | cons t r =>
    rw [firstD_cons] at h
    by_cases c1 : (lenD r).1 ≠ 0
    · rw [if_pos c1] at h; exact absurd (congrArg (·.1) h) c1
    · rw [if_neg c1] at h
      by_cases c2 : (lenD r).2.1 > 4096
      · rw [if_pos c2] at h; simp at h
      · rw [if_neg c2] at h
        by_cases c3 : (lenD r).2.1 > r.length - (lenD r).2.2
        · rw [if_pos c3] at h; simp at h
        · rw [if_neg c3] at h
          have c1' : (lenD r).1 = 0 := Decidable.of_not_not c1
          obtain ⟨a1, a2, a3⟩ := lenD_at c1'
          have hbk := lenD_back (fun y hy => hb y (by simp [hy])) c1' t
          simp only [Prod.mk.injEq, true_and] at h
          obtain ⟨rfl, rfl⟩ := h
          have hl : ((r.drop (lenD r).2.2).take (lenD r).2.1).length = (lenD r).2.1 := by rw [List.length_take, List.length_drop]; omega
          have hw : wr1 (t, (r.drop (lenD r).2.2).take (lenD r).2.1) = t :: (r.take (lenD r).2.2 ++ (r.drop (lenD r).2.2).take (lenD r).2.1) := by
            rw [wr1]; dsimp only; rw [hl, hbk]; rfl
          have hd : r = r.take (lenD r).2.2 ++ ((r.drop (lenD r).2.2).take (lenD r).2.1 ++ r.drop ((lenD r).2.2 + (lenD r).2.1)) := by
            rw [← List.drop_drop, List.take_append_drop, List.take_append_drop]
          refine ⟨?_, ?_, by dsimp only; omega, hb t (by simp)⟩
          · rw [hw, show 1 + (lenD r).2.2 + (lenD r).2.1 = (lenD r).2.2 + (lenD r).2.1 + 1 by omega, List.drop_succ_cons]
            rw [List.cons_append, List.append_assoc, ← hd]
          · rw [hw]; simp only [List.length_cons, List.length_append, List.length_take, List.length_drop]; omega
/-- What is cut is too short. -/
theorem firstD_short {t : Nat} {r : List Nat} (h : (lenD r).1 = 3 ∨ ((lenD r).1 = 0 ∧ (lenD r).2.1 ≤ 4096 ∧ (lenD r).2.1 > r.length - (lenD r).2.2)) : firstD (t :: r) = (3, (0, []), 0) := by
  rw [firstD_cons]
  rcases h with h | ⟨h1, h2, h3⟩
  · rw [if_pos (by omega), h]
  · rw [if_neg (by omega), if_neg (by omega), if_pos h3]
theorem firstD_cut {x : Nat × List Nat} (hx : x.2.length ≤ 4096) {k : Nat} (hk : k < (wr1 x).length) : firstD ((wr1 x).take k) = (3, (0, []), 0) := by
  obtain ⟨t, q⟩ := x
  dsimp only at hx
  cases k with
  | zero => rfl
  | succ k =>
    unfold wr1 headL at hk ⊢
    dsimp only at hk ⊢
    by_cases c1 : q.length < 128
    · rw [if_pos c1] at hk ⊢
      cases k with
      | zero => exact firstD_short (.inl rfl)
      | succ k =>
        simp only [List.cons_append, List.nil_append, List.length_cons] at hk
        simp only [List.cons_append, List.nil_append, List.take_succ_cons]
        refine firstD_short (.inr ?_)
        rw [lenD_a c1]
        refine ⟨rfl, by dsimp only; omega, ?_⟩
        dsimp only
        rw [List.length_cons, List.length_take]
        omega
    · rw [if_neg c1] at hk ⊢
      by_cases c2 : q.length < 256
      · rw [if_pos c2] at hk ⊢
        match k with
        | 0 => exact firstD_short (.inl rfl)
        | 1 => exact firstD_short (.inl rfl)
        | k + 2 =>
          simp only [List.cons_append, List.nil_append, List.length_cons] at hk
          simp only [List.cons_append, List.nil_append, List.take_succ_cons]
          refine firstD_short (.inr ?_)
          rw [lenD_129, if_neg c1]
          refine ⟨rfl, by dsimp only; omega, ?_⟩
          dsimp only
          rw [List.length_cons, List.length_cons, List.length_take]
          omega
      · rw [if_neg c2] at hk ⊢
        have e : q.length / 256 % 256 * 256 + q.length % 256 = q.length := by omega
        match k with
        | 0 => exact firstD_short (.inl rfl)
        | 1 => exact firstD_short (.inl rfl)
        | 2 => exact firstD_short (.inl rfl)
        | k + 3 =>
          simp only [List.cons_append, List.nil_append, List.length_cons] at hk
          simp only [List.cons_append, List.nil_append, List.take_succ_cons]
          refine firstD_short (.inr ?_)
          rw [lenD_130, e, if_neg c2]
          refine ⟨rfl, by dsimp only; omega, ?_⟩
          dsimp only
          rw [List.length_cons, List.length_cons, List.length_cons, List.length_take]
          omega
/-! ### All -/
/-- An error's number, and the items: of at most 200 with those that are there. -/
def rdL : Nat → Nat → List Nat → Nat × List (Nat × List Nat)
  | 0, _, _ => (0, [])
  | _ + 1, _, [] => (0, [])
  | f + 1, c, y :: r => if c = 200 then (2, []) else if (firstD (y :: r)).1 ≠ 0 then ((firstD (y :: r)).1, [])
    else if (rdL f (c + 1) ((y :: r).drop (firstD (y :: r)).2.2)).1 ≠ 0 then ((rdL f (c + 1) ((y :: r).drop (firstD (y :: r)).2.2)).1, [])
    else (0, (firstD (y :: r)).2.1 :: (rdL f (c + 1) ((y :: r).drop (firstD (y :: r)).2.2)).2)
def rdD (p : List Nat) : Nat × List (Nat × List Nat) := if p.length > 65536 then (2, []) else rdL p.length 0 p
theorem wr1_pos (x : Nat × List Nat) : 2 ≤ (wr1 x).length := by
  have := (headL_len x.1 x.2.length).2
  rw [wr1, List.length_append]; omega
theorem wr1_ne (x : Nat × List Nat) (s : List Nat) : wr1 x ++ s ≠ [] := fun h => by
  have h1 := congrArg List.length h
  have h2 := wr1_pos x
  rw [List.length_append, List.length_nil] at h1
  omega
theorem rdL_step {f c : Nat} {p : List Nat} (hp : p ≠ []) (hc : c ≠ 200) {x : Nat × List Nat} {n : Nat} (h : firstD p = (0, x, n)) :
    rdL (f + 1) c p = if (rdL f (c + 1) (p.drop n)).1 ≠ 0 then ((rdL f (c + 1) (p.drop n)).1, []) else (0, x :: (rdL f (c + 1) (p.drop n)).2) := by
  cases p with
  | nil => exact absurd rfl hp
  | cons y r => rw [rdL, h, if_neg hc, if_neg (by simp)]
theorem rdL_wrL : ∀ (l : List (Nat × List Nat)) (f c : Nat), (∀ x ∈ l, x.2.length ≤ 4096) → c + l.length ≤ 200 → (wrL l).length ≤ f → rdL f c (wrL l) = (0, l)
  | [], f, c, _, _, _ => by cases f <;> rfl
  | x :: r, f, c, h, hc, hf => by
    have hx := h x (by simp)
    have e : wrL (x :: r) = wr1 x ++ wrL r := by rw [show x :: r = [x] ++ r from rfl, wrL_app, wrL_one]
    have hp := wr1_pos x
    rw [e, List.length_append] at hf
    simp only [List.length_cons] at hc
    obtain ⟨f, rfl⟩ : ∃ g, f = g + 1 := ⟨f - 1, by omega⟩
    rw [e, rdL_step (wr1_ne _ _) (by omega) (firstD_wr1 hx (wrL r)), List.drop_left, rdL_wrL r f (c + 1) (fun y hy => h y (by simp [hy])) (by omega) (by omega)]
    simp
theorem rdL_back : ∀ (f c : Nat) (p : List Nat), (∀ y ∈ p, y < 256) → p.length ≤ f → (rdL f c p).1 = 0 → c ≤ 200 → p = wrL (rdL f c p).2 ∧ (∀ x ∈ (rdL f c p).2, x.2.length ≤ 4096 ∧ x.1 < 256) ∧ c + (rdL f c p).2.length ≤ 200
  | 0, c, p, _, hf, _, hc => by
    obtain rfl : p = [] := List.eq_nil_of_length_eq_zero (by omega)
    exact ⟨rfl, by simp [rdL], by simp [rdL]; exact hc⟩
  | f + 1, c, [], _, _, _, hc => ⟨rfl, by simp [rdL], by simp [rdL]; exact hc⟩
  | f + 1, c, y :: r, hb, hf, h, hc => by
    by_cases c1 : c = 200
    · rw [rdL, if_pos c1] at h; simp at h
    by_cases c2 : (firstD (y :: r)).1 ≠ 0
    · rw [rdL, if_neg c1, if_pos c2] at h; exact absurd h c2
    have c2' : (firstD (y :: r)).1 = 0 := Decidable.of_not_not c2
    obtain ⟨x, n, hx⟩ : ∃ x n, firstD (y :: r) = (0, x, n) := ⟨_, _, Prod.ext c2' rfl⟩
    obtain ⟨b1, b2, b3, b4⟩ := firstD_back hb hx
    have hs := rdL_step (f := f) (c := c) (p := y :: r) (by simp) c1 hx
    rw [hs] at h ⊢
    have hn := wr1_pos x
    by_cases c3 : (rdL f (c + 1) ((y :: r).drop n)).1 ≠ 0
    · rw [if_pos c3] at h; exact absurd h c3
    rw [if_neg c3]
    have c3' : (rdL f (c + 1) ((y :: r).drop n)).1 = 0 := Decidable.of_not_not c3
    obtain ⟨i1, i2, i3⟩ := rdL_back f (c + 1) ((y :: r).drop n) (fun z hz => hb z (List.mem_of_mem_drop hz)) (by rw [List.length_drop]; generalize (y :: r).length = L at *; omega) c3' (by omega)
    refine ⟨?_, ?_, by simp only [List.length_cons]; omega⟩
    · dsimp only
      rw [show x :: (rdL f (c + 1) ((y :: r).drop n)).2 = [x] ++ (rdL f (c + 1) ((y :: r).drop n)).2 from rfl, wrL_app, wrL_one, ← i1]
      exact b1
    · intro z hz
      rcases List.mem_cons.1 hz with rfl | hz
      · exact ⟨b3, b4⟩
      · exact i2 z hz
theorem rdL_cut : ∀ (l : List (Nat × List Nat)) (f c : Nat) (x : Nat × List Nat) (k : Nat), (∀ y ∈ l, y.2.length ≤ 4096) → x.2.length ≤ 4096 → 0 < k → k < (wr1 x).length → c + l.length < 200 → (wrL l).length + k ≤ f → rdL f c (wrL l ++ (wr1 x).take k) = (3, [])
  | [], f, c, x, k, _, hx, hk, hkl, hc, hf => by
    have e : wrL [] ++ (wr1 x).take k = (wr1 x).take k := rfl
    rw [e]
    have hlen : ((wr1 x).take k).length = k := by rw [List.length_take]; omega
    have hf' : 0 < f := by simp [wrL] at hf; omega
    obtain ⟨f, rfl⟩ : ∃ g, f = g + 1 := ⟨f - 1, by omega⟩
    have hc1 := firstD_cut hx hkl
    cases hq : (wr1 x).take k with
    | nil => rw [hq] at hlen; simp at hlen; omega
    | cons y r =>
      rw [hq] at hc1
      rw [rdL, hc1, if_neg (by simp at hc; omega), if_pos (by simp)]
  | z :: r, f, c, x, k, h, hx, hk, hkl, hc, hf => by
    have hz := h z (by simp)
    have e : wrL (z :: r) = wr1 z ++ wrL r := by rw [show z :: r = [z] ++ r from rfl, wrL_app, wrL_one]
    have hp := wr1_pos z
    rw [e, List.length_append] at hf
    simp only [List.length_cons] at hc
    obtain ⟨f, rfl⟩ : ∃ g, f = g + 1 := ⟨f - 1, by omega⟩
    rw [e, List.append_assoc, rdL_step (wr1_ne _ _) (by omega) (firstD_wr1 hz _), List.drop_left, rdL_cut r f (c + 1) x k (fun y hy => h y (by simp [hy])) hx hk hkl (by omega) (by omega)]
    simp
end Go.Proofs.Ytpcockfnljdilaa
