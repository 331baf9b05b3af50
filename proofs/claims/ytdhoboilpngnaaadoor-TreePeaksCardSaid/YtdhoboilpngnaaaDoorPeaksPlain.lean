/- Logs of leaves, in plain terms: the peaks are the roots of the powers of 2. -/
import Derived.Test.YtdhoboilpngnaaaDoorTreePlain
namespace Go.Proofs.YtdhoboilpngnaaaDoor
set_option linter.unusedVariables false
def peaksD (l : List (List Nat)) : List (List Nat) :=
  if h : l.length = 0 then [] else rootD (l.take (2 ^ Nat.log2 l.length)) :: peaksD (l.drop (2 ^ Nat.log2 l.length))
termination_by l.length
decreasing_by
  have := Nat.two_pow_pos (Nat.log2 l.length)
  rw [List.length_drop]; omega
def rootP : List (List Nat) → List Nat
  | [] => []
  | [d] => d
  | x :: r => nodeD x (rootP r)
theorem rootP_cons (x : List Nat) {r : List (List Nat)} (h : r ≠ []) : rootP (x :: r) = nodeD x (rootP r) := by
  cases r with
  | nil => exact absurd rfl h
  | cons y r => rfl
theorem peaksD_nil : peaksD [] = [] := by rw [peaksD]; rfl
theorem log2_of {n j : Nat} (h1 : 2 ^ j ≤ n) (h2 : n < 2 ^ (j + 1)) : Nat.log2 n = j := by
  have := Nat.two_pow_pos j
  exact (Nat.log2_eq_iff (by omega)).2 ⟨h1, h2⟩
theorem peaksD_of {l : List (List Nat)} {j : Nat} (h1 : 2 ^ j ≤ l.length) (h2 : l.length < 2 ^ (j + 1)) : peaksD l = rootD (l.take (2 ^ j)) :: peaksD (l.drop (2 ^ j)) := by
  have := Nat.two_pow_pos j
  conv => lhs; rw [peaksD]
  rw [dif_neg (by omega), log2_of h1 h2]
theorem peaksD_pow {l : List (List Nat)} {j : Nat} (h : l.length = 2 ^ j) : peaksD l = [rootD l] := by
  have := Nat.two_pow_pos j
  rw [peaksD_of (j := j) (by omega) (by rw [Nat.pow_succ]; omega), ← h, List.take_length, List.drop_length, peaksD_nil]
theorem log2_spec {n : Nat} (h : n ≠ 0) : 2 ^ Nat.log2 n ≤ n ∧ n < 2 ^ (Nat.log2 n + 1) := ⟨Nat.log2_self_le h, Nat.lt_log2_self⟩
theorem peaksD_ne {l : List (List Nat)} (h : l.length ≠ 0) : peaksD l ≠ [] := by
  rw [peaksD, dif_neg h]; simp
theorem rootP_peaks (n : Nat) : ∀ l : List (List Nat), l.length = n → n ≠ 0 → rootP (peaksD l) = rootD l := by
  induction n using Nat.strongRecOn with
  | ind n ih =>
    intro l hl hn
    obtain ⟨h1, h2⟩ := log2_spec hn
    have hp := Nat.two_pow_pos (Nat.log2 n)
    generalize Nat.log2 n = j at *
    by_cases he : n = 2 ^ j
    · rw [peaksD_pow (hl.trans he)]; rfl
    · rw [peaksD_of (j := j) (by omega) (by omega), rootP_cons _ (peaksD_ne (by rw [List.length_drop]; omega)), ih (n - 2 ^ j) (by omega) _ (by rw [List.length_drop, hl]) (by omega)]
      have := halves (l.take (2 ^ j)) (l.drop (2 ^ j)) j (by rw [List.length_take]; omega) (by rw [List.length_drop]; omega) (by rw [List.length_drop]; rw [Nat.pow_succ] at h2; omega)
      rw [List.take_append_drop] at this
      exact this.symm
/-- What comes behind peaks of which each is of more leaves. -/
theorem peaksD_app (k : Nat) (n : Nat) : ∀ (l m : List (List Nat)), l.length = n → (∃ a, n = a * 2 ^ k) → m.length < 2 ^ k → peaksD (l ++ m) = peaksD l ++ peaksD m := by
  induction n using Nat.strongRecOn with
  | ind n ih =>
    intro l m hl ⟨a, ha⟩ hm
    by_cases h0 : n = 0
    · have : l = [] := List.eq_nil_of_length_eq_zero (by omega)
      subst this
      rw [peaksD_nil]; rfl
    · obtain ⟨h1, h2⟩ := log2_spec h0
      have hp := Nat.two_pow_pos (Nat.log2 n)
      generalize Nat.log2 n = j at *
      have hkj : k ≤ j := by
        refine Nat.lt_succ_iff.1 ((Nat.pow_lt_pow_iff_right (by decide : 1 < 2)).1 (Nat.lt_of_le_of_lt ?_ h2))
        rw [ha]
        exact Nat.le_mul_of_pos_left _ (Nat.pos_of_ne_zero fun e => h0 (by rw [ha, e, Nat.zero_mul]))
      obtain ⟨c, rfl⟩ : ∃ c, j = k + c := ⟨j - k, by omega⟩
      have hup : n + m.length < 2 ^ (k + c + 1) := by
        have e1 : 2 ^ (k + c + 1) = 2 ^ (c + 1) * 2 ^ k := by rw [← Nat.pow_add]; congr 1; omega
        rw [e1, ha] at h2 ⊢
        have : a < 2 ^ (c + 1) := Nat.lt_of_mul_lt_mul_right h2
        calc a * 2 ^ k + m.length < a * 2 ^ k + 2 ^ k := by omega
          _ = (a + 1) * 2 ^ k := by rw [Nat.add_mul, Nat.one_mul]
          _ ≤ 2 ^ (c + 1) * 2 ^ k := Nat.mul_le_mul_right _ this
      rw [peaksD_of (j := k + c) (l := l ++ m) (by rw [List.length_append]; omega) (by rw [List.length_append]; omega), peaksD_of (j := k + c) (l := l) (by omega) (by omega),
        List.take_append_of_le_length (by omega), List.drop_append_of_le_length (by omega), ih (n - 2 ^ (k + c)) (by omega) (l.drop (2 ^ (k + c))) m (by rw [List.length_drop, hl]) ⟨a - 2 ^ c, by
          rw [ha, Nat.sub_mul, Nat.pow_add, Nat.mul_comm (2 ^ k)]⟩ hm]
      rfl
def addLoop (n : Nat) (ps : List (List Nat)) (d : List Nat) : List (List Nat) :=
  if h : n % 2 = 1 then addLoop (n / 2) ps.dropLast (nodeD (ps.getLastD []) d) else ps ++ [d]
termination_by n
decreasing_by omega
theorem addLoop_odd {n : Nat} {ps : List (List Nat)} {d : List Nat} (h : n % 2 = 1) : addLoop n ps d = addLoop (n / 2) ps.dropLast (nodeD (ps.getLastD []) d) := by
  conv => lhs; rw [addLoop]
  rw [dif_pos h]
theorem addLoop_even {n : Nat} {ps : List (List Nat)} {d : List Nat} (h : ¬ n % 2 = 1) : addLoop n ps d = ps ++ [d] := by rw [addLoop, dif_neg h]
theorem add_peaks (n : Nat) : ∀ (k : Nat) (l m : List (List Nat)), l.length = n * 2 ^ k → m.length = 2 ^ k → peaksD (l ++ m) = addLoop n (peaksD l) (rootD m) := by
  induction n using Nat.strongRecOn with
  | ind n ih =>
    intro k l m hl hm
    have hp := Nat.two_pow_pos k
    by_cases ho : n % 2 = 1
    · obtain ⟨q, rfl⟩ : ∃ q, n = 2 * q + 1 := ⟨n / 2, by omega⟩
      have hP : 2 ^ (k + 1) = 2 ^ k * 2 := Nat.pow_succ ..
      have hl' : l.length = q * 2 ^ (k + 1) + 2 ^ k := by rw [hl, Nat.pow_succ, Nat.add_mul, Nat.one_mul, Nat.mul_comm 2 q, Nat.mul_assoc, Nat.mul_comm 2]
      have e1 : peaksD l = peaksD (l.take (q * 2 ^ (k + 1))) ++ [rootD (l.drop (q * 2 ^ (k + 1)))] := by
        have := peaksD_app (k + 1) (q * 2 ^ (k + 1)) (l.take (q * 2 ^ (k + 1))) (l.drop (q * 2 ^ (k + 1))) (by rw [List.length_take]; omega) ⟨q, rfl⟩ (by rw [List.length_drop, hl']; omega)
        rw [List.take_append_drop, peaksD_pow (j := k) (l := l.drop _) (by rw [List.length_drop]; omega)] at this
        exact this
      rw [addLoop_odd (by omega), e1, List.dropLast_concat, List.getLastD_concat, show (2 * q + 1) / 2 = q by omega,
        ← halves (l.drop (q * 2 ^ (k + 1))) m k (by rw [List.length_drop]; omega) (by omega) (by omega),
        ← ih q (by omega) (k + 1) (l.take (q * 2 ^ (k + 1))) (l.drop (q * 2 ^ (k + 1)) ++ m) (by rw [List.length_take]; omega) (by rw [List.length_append, List.length_drop, hl']; omega),
        ← List.append_assoc, List.take_append_drop]
    · rw [addLoop_even ho, peaksD_app (k + 1) l.length l m rfl ⟨n / 2, by rw [hl, Nat.pow_succ, Nat.mul_comm (2 ^ k) 2, ← Nat.mul_assoc]; congr 1; omega⟩ (by rw [Nat.pow_succ]; omega), peaksD_pow hm]
theorem add_one (l : List (List Nat)) (p : List Nat) : peaksD (l ++ [p]) = addLoop l.length (peaksD l) (leafD p) := by
  rw [← rootD_one]
  exact add_peaks l.length 0 l [p] (by simp) rfl
/-- There are no more peaks than digits. -/
theorem peaksD_len (k : Nat) : ∀ l : List (List Nat), l.length < 2 ^ k → (peaksD l).length ≤ k := by
  induction k with
  | zero => intro l h; have : l = [] := List.eq_nil_of_length_eq_zero (by simpa using h); subst this; rw [peaksD_nil]; exact Nat.le_refl _
  | succ k ih =>
    intro l h
    by_cases h0 : l.length < 2 ^ k
    · exact Nat.le_succ_of_le (ih l h0)
    · rw [peaksD_of (j := k) (by omega) h, List.length_cons]
      exact Nat.succ_le_succ (ih _ (by rw [List.length_drop]; rw [Nat.pow_succ] at h; omega))
/-- While the digits are 1 there is a peak. -/
theorem peaks_odd {l : List (List Nat)} (h : l.length ≠ 0) : (peaksD l).length ≠ 0 := fun e => peaksD_ne h (List.eq_nil_of_length_eq_zero e)
end Go.Proofs.YtdhoboilpngnaaaDoor
