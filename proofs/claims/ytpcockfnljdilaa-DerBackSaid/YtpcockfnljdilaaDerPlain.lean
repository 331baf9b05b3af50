/- Items as bytes, in plain terms. -/
namespace Go.Proofs.Ytpcockfnljdilaa
/-- What stands ahead of a body of n bytes. -/
def headL (tag n : Nat) : List Nat := if n < 128 then [tag, n] else if n < 256 then [tag, 129, n] else [tag, 130, n / 256 % 256, n % 256]
def wr1 (x : Nat × List Nat) : List Nat := headL x.1 x.2.length ++ x.2
def wrL (l : List (Nat × List Nat)) : List Nat := (l.map wr1).flatten
/-- May that be written? -/
def fitsL (l : List (Nat × List Nat)) : Prop := l.length ≤ 200 ∧ ∀ x ∈ l, x.2.length ≤ 4096
theorem wrL_app (a b : List (Nat × List Nat)) : wrL (a ++ b) = wrL a ++ wrL b := by simp [wrL]
theorem wrL_nil : wrL [] = [] := rfl
theorem wrL_one (x : Nat × List Nat) : wrL [x] = wr1 x := by simp [wrL]
theorem wrL_snoc {l : List (Nat × List Nat)} {i : Nat} {x : Nat × List Nat} (h : l[i]? = some x) : wrL (l.take (i + 1)) = wrL (l.take i) ++ wr1 x := by
  rw [List.take_add_one, h, wrL_app]
  simp [wrL_one]
theorem headL_len (t n : Nat) : (headL t n).length ≤ 4 ∧ 2 ≤ (headL t n).length := by
  unfold headL; split <;> (try split) <;> simp
theorem wr1_len (x : Nat × List Nat) : (wr1 x).length ≤ x.2.length + 4 := by
  have := (headL_len x.1 x.2.length).1
  simp only [wr1, List.length_append]; omega
theorem wrL_len : ∀ {l : List (Nat × List Nat)}, (∀ x ∈ l, x.2.length ≤ 4096) → (wrL l).length ≤ 4100 * l.length
  | [], _ => by simp [wrL]
  | x :: r, h => by
    have h1 := wr1_len x
    have h2 := h x (by simp)
    have h3 := wrL_len (l := r) fun y hy => h y (by simp [hy])
    rw [show x :: r = [x] ++ r from rfl, wrL_app, List.length_append, wrL_one]
    simp only [List.length_append, List.length_cons, List.length_nil]
    omega
/-- Of two items' texts none is the beginning of the other, unless they are one. -/
theorem wr1_front {x y : Nat × List Nat} (hx : x.2.length ≤ 4096) (hy : y.2.length ≤ 4096) {s t : List Nat} (h : wr1 x ++ s = wr1 y ++ t) : x = y ∧ s = t := by
  obtain ⟨a, p⟩ := x
  obtain ⟨b, q⟩ := y
  simp only [wr1] at h hx hy
  have key : a = b ∧ p.length = q.length ∧ p ++ s = q ++ t := by
    generalize hn : p.length = n at *
    generalize hm : q.length = m at *
    by_cases n1 : n < 128 <;> by_cases n2 : n < 256 <;> by_cases m1 : m < 128 <;> by_cases m2 : m < 256 <;> simp [headL, n1, n2, m1, m2] at h <;>
      first | exact ⟨h.1, h.2.1, h.2.2⟩ | exact ⟨h.1, by omega, h.2.2.2⟩ | (exfalso; omega)
  obtain ⟨rfl, hl, h3⟩ := key
  obtain ⟨rfl, h4⟩ := List.append_inj h3 hl
  exact ⟨rfl, h4⟩
end Go.Proofs.Ytpcockfnljdilaa
