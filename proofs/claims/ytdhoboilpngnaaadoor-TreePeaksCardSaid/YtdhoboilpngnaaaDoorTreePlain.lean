/- Trees of digests, in plain terms. -/
import Derived.Test.YtdhoboilpngnaaaDoorShaLaw
namespace Go.Proofs.YtdhoboilpngnaaaDoor
set_option linter.unusedVariables false
def leafD (p : List Nat) : List Nat := ((newH.write [0]).write p).sum
def nodeD (a b : List Nat) : List Nat := (((newH.write [1]).write a).write b).sum
/-- The greatest power of 2 below n. -/
def halfN (n : Nat) : Nat := 2 ^ Nat.log2 (n - 1)
theorem halfN_of {n j : Nat} (h1 : 2 ^ j < n) (h2 : n ≤ 2 ^ (j + 1)) : halfN n = 2 ^ j := by
  unfold halfN
  congr 1
  have := Nat.two_pow_pos j
  exact (Nat.log2_eq_iff (by omega)).2 ⟨by omega, by omega⟩
theorem halfN_spec {n : Nat} (h : 2 ≤ n) : ∃ j, halfN n = 2 ^ j ∧ 2 ^ j < n ∧ n ≤ 2 ^ (j + 1) := by
  have h1 := Nat.log2_self_le (n := n - 1) (by omega)
  have h2 := Nat.lt_log2_self (n := n - 1)
  exact ⟨Nat.log2 (n - 1), rfl, by omega, by omega⟩
theorem halfN_lt {n : Nat} (h : 2 ≤ n) : 0 < halfN n ∧ halfN n < n := by
  obtain ⟨j, h1, h2, h3⟩ := halfN_spec h
  have := Nat.two_pow_pos j
  rw [h1]; omega
def rootD (l : List (List Nat)) : List Nat :=
  if h0 : l.length = 0 then dig [] else if h1 : l.length = 1 then leafD (l.headD []) else nodeD (rootD (l.take (halfN l.length))) (rootD (l.drop (halfN l.length)))
termination_by l.length
decreasing_by
  · have := halfN_lt (n := l.length) (by omega)
    rw [List.length_take]; omega
  · have := halfN_lt (n := l.length) (by omega)
    rw [List.length_drop]; omega
theorem rootD_nil : rootD [] = dig [] := by rw [rootD]; rfl
theorem rootD_one (p : List Nat) : rootD [p] = leafD p := by rw [rootD]; simp
theorem rootD_two {l : List (List Nat)} (h : 2 ≤ l.length) : rootD l = nodeD (rootD (l.take (halfN l.length))) (rootD (l.drop (halfN l.length))) := by
  conv => lhs; rw [rootD]
  rw [dif_neg (by omega), dif_neg (by omega)]
theorem halves (l m : List (List Nat)) (n : Nat) (hl : l.length = 2 ^ n) (h1 : 0 < m.length) (h2 : m.length ≤ 2 ^ n) : rootD (l ++ m) = nodeD (rootD l) (rootD m) := by
  have hlen : (l ++ m).length = 2 ^ n + m.length := by rw [List.length_append, hl]
  have hp := Nat.two_pow_pos n
  rw [rootD_two (by omega), hlen, halfN_of (j := n) (by omega) (by rw [Nat.pow_succ]; omega), List.take_left' hl, List.drop_left' hl]
/-! ### Paths -/
def pathD (l : List (List Nat)) (i : Nat) : List (List Nat) :=
  if h : l.length ≤ 1 then [] else if i < halfN l.length then pathD (l.take (halfN l.length)) i ++ [rootD (l.drop (halfN l.length))] else pathD (l.drop (halfN l.length)) (i - halfN l.length) ++ [rootD (l.take (halfN l.length))]
termination_by l.length
decreasing_by
  · have := halfN_lt (n := l.length) (by omega)
    rw [List.length_take]; omega
  · have := halfN_lt (n := l.length) (by omega)
    rw [List.length_drop]; omega
/-- How far a leaf is from the root. -/
def depthD (n i : Nat) : Nat :=
  if h : n ≤ 1 then 0 else if i < halfN n then depthD (halfN n) i + 1 else depthD (n - halfN n) (i - halfN n) + 1
termination_by n
decreasing_by
  · have := halfN_lt (n := n) (by omega)
    omega
  · have := halfN_lt (n := n) (by omega)
    omega
theorem pathD_len (n : Nat) : ∀ (l : List (List Nat)) (i : Nat), l.length = n → (pathD l i).length = depthD n i := by
  induction n using Nat.strongRecOn with
  | ind n ih =>
    intro l i hl
    rw [pathD, depthD]
    by_cases h : n ≤ 1
    · rw [dif_pos (by omega), dif_pos h]; rfl
    · have hh := halfN_lt (n := n) (by omega)
      rw [dif_neg (by omega), dif_neg h, hl]
      split
      · rw [List.length_append, ih (halfN n) hh.2 _ _ (by rw [List.length_take]; omega)]; rfl
      · rw [List.length_append, ih (n - halfN n) (by omega) _ _ (by rw [List.length_drop]; omega)]; rfl
theorem depthD_le (n : Nat) : ∀ i k, n ≤ 2 ^ k → depthD n i ≤ k := by
  induction n using Nat.strongRecOn with
  | ind n ih =>
    intro i k hk
    rw [depthD]
    by_cases h : n ≤ 1
    · rw [dif_pos h]; omega
    · obtain ⟨j, e1, e2, e3⟩ := halfN_spec (n := n) (by omega)
      have hh := halfN_lt (n := n) (by omega)
      have hjk : j < k := (Nat.pow_lt_pow_iff_right (by decide : 1 < 2)).1 (Nat.lt_of_lt_of_le e2 hk)
      rw [dif_neg h]
      have hp : 2 ^ j ≤ 2 ^ (k - 1) := Nat.pow_le_pow_right (by decide) (by omega)
      rw [Nat.pow_succ] at e3
      split
      · have := ih (halfN n) hh.2 i (k - 1) (by omega)
        omega
      · have := ih (n - halfN n) (by omega) (i - halfN n) (k - 1) (by omega)
        omega
/-- Along a path, from the leaf up. -/
def climbD (n i : Nat) (d : List Nat) (path : List (List Nat)) : List Nat × Bool :=
  if h : n ≤ 1 then (d, path.length == 0) else if path.length = 0 then (d, false) else
    if i < halfN n then (nodeD (climbD (halfN n) i d path.dropLast).1 (path.getLastD []), (climbD (halfN n) i d path.dropLast).2)
    else (nodeD (path.getLastD []) (climbD (n - halfN n) (i - halfN n) d path.dropLast).1, (climbD (n - halfN n) (i - halfN n) d path.dropLast).2)
termination_by n
decreasing_by
  all_goals
    have := halfN_lt (n := n) (by omega)
    omega
theorem climb_ok (n : Nat) : ∀ i d path, (climbD n i d path).2 = (path.length == depthD n i) := by
  induction n using Nat.strongRecOn with
  | ind n ih =>
    intro i d path
    rw [climbD, depthD]
    by_cases h : n ≤ 1
    · rw [dif_pos h, dif_pos h]
    · have hh := halfN_lt (n := n) (by omega)
      rw [dif_neg h, dif_neg h]
      by_cases hp : path.length = 0
      · rw [if_pos hp, hp]
        split <;> simp
      · rw [if_neg hp]
        split
        · rw [ih (halfN n) hh.2, List.length_dropLast]
          rw [Bool.eq_iff_iff, beq_iff_eq, beq_iff_eq]; omega
        · rw [ih (n - halfN n) (by omega), List.length_dropLast]
          rw [Bool.eq_iff_iff, beq_iff_eq, beq_iff_eq]; omega
theorem climb_path (n : Nat) : ∀ (l : List (List Nat)) (i : Nat), l.length = n → i < n → (climbD n i (leafD (l.getD i [])) (pathD l i)).1 = rootD l := by
  induction n using Nat.strongRecOn with
  | ind n ih =>
    intro l i hl hi
    rw [climbD, pathD]
    by_cases h : n ≤ 1
    · rw [dif_pos h]
      have hn : n = 1 := by omega
      match l, hl with
      | [p], _ =>
        have : i = 0 := by omega
        subst this
        rw [rootD_one]; rfl
      | [], hl => simp at hl; omega
      | _ :: _ :: _, hl => simp at hl; omega
    · have hh := halfN_lt (n := n) (by omega)
      rw [dif_neg h, dif_neg (by omega), hl, rootD_two (l := l) (by omega), hl]
      by_cases hih : i < halfN n
      · have e := ih (halfN n) hh.2 (l.take (halfN n)) i (by rw [List.length_take]; omega) hih
        have eg : (l.take (halfN n)).getD i [] = l.getD i [] := by simp [List.getD, List.getElem?_take_of_lt hih]
        rw [eg] at e
        simp only [if_pos hih]
        rw [if_neg (by simp), List.dropLast_concat, e]
        simp
      · have e := ih (n - halfN n) (by omega) (l.drop (halfN n)) (i - halfN n) (by rw [List.length_drop]; omega) (by omega)
        have eg : (l.drop (halfN n)).getD (i - halfN n) [] = l.getD i [] := by
          simp only [List.getD, List.getElem?_drop]; congr 2; omega
        rw [eg] at e
        simp only [if_neg hih]
        rw [if_neg (by simp), List.dropLast_concat, e]
        simp
end Go.Proofs.YtdhoboilpngnaaaDoor
