/- Slices of records of one shape: each a row of k cells. -/
import Derived.Test.YtkbgkobbadjpnaaDoorLwH
import Derived.Test.YtkbgkobbadjpnaaDoorSeeAll
namespace Go.Proofs.YtkbgkobbadjpnaaDoor
open Go.RowKit
set_option linter.unusedVariables false
set_option linter.unusedSimpArgs false
/-- How a record lies in memory. -/
structure Enc (α : Type) (k : Nat) where
  enc : α → List Value
  len : ∀ a, (enc a).length = k
  one : ∀ a, ∀ y ∈ enc a, y.oneCell' = true
section
variable {α : Type} {k : Nat}
def recs (E : Enc α k) (l : List α) : List Value := (l.map E.enc).flatten
theorem recs_nil (E : Enc α k) : recs E [] = [] := rfl
theorem recs_cons (E : Enc α k) (a : α) (l : List α) : recs E (a :: l) = E.enc a ++ recs E l := rfl
theorem recs_len (E : Enc α k) : ∀ l : List α, (recs E l).length = l.length * k
  | [] => by simp [recs]
  | a :: l => by rw [recs_cons, List.length_append, E.len, recs_len E l, List.length_cons, Nat.succ_mul, Nat.add_comm]
theorem recs_app (E : Enc α k) (a b : List α) : recs E a ++ recs E b = recs E (a ++ b) := by simp [recs]
theorem recs_snoc (E : Enc α k) (a : List α) (x : α) : recs E a ++ E.enc x = recs E (a ++ [x]) := by simp [recs]
theorem recs_one (E : Enc α k) (l : List α) : ∀ y ∈ recs E l, y.oneCell' = true := fun y hy => by
  obtain ⟨c, hc, hy⟩ := List.mem_flatten.1 hy
  obtain ⟨a, _, rfl⟩ := List.mem_map.1 hc
  exact E.one a y hy
theorem recs_drop (E : Enc α k) : ∀ (l : List α) (i : Nat), (recs E l).drop (i * k) = recs E (l.drop i)
  | [], i => by simp [recs]
  | a :: l, 0 => by simp
  | a :: l, i + 1 => by
    have h := E.len a
    rw [List.drop_succ_cons, ← recs_drop E l i, recs_cons, List.drop_append, h, List.drop_of_length_le (by rw [h, Nat.succ_mul]; omega), List.nil_append, Nat.succ_mul, Nat.add_sub_cancel]
theorem recs_take (E : Enc α k) : ∀ (l : List α) (i : Nat), (recs E l).take (i * k) = recs E (l.take i)
  | [], i => by simp [recs]
  | a :: l, 0 => by simp [recs]
  | a :: l, i + 1 => by
    have h := E.len a
    rw [List.take_succ_cons, recs_cons, recs_cons, ← recs_take E l i, List.take_append, h, List.take_of_length_le (by rw [h, Nat.succ_mul]; omega), Nat.succ_mul, Nat.add_sub_cancel]
theorem recs_get (E : Enc α k) {l : List α} {i : Nat} {x : α} (h : l[i]? = some x) : ((recs E l).drop (i * k)).take k = E.enc x := by
  have hi := (List.getElem?_eq_some_iff.1 h).1
  have h1 := recs_take E (l.drop i) 1
  rw [Nat.one_mul] at h1
  rw [recs_drop, h1, List.drop_eq_getElem_cons hi, List.take_succ_cons, List.take_zero]
  have := (List.getElem?_eq_some_iff.1 h).2
  simp [recs, this]
/-- One cell of it. -/
theorem recs_cell (E : Enc α k) {l : List α} {i j : Nat} {x : α} (h : l[i]? = some x) (hj : j < k) : (recs E l)[i * k + j]? = (E.enc x)[j]? := by
  have := congrArg (·[j]?) (recs_get E h)
  simpa [hj] using this
theorem recs_part (E : Enc α k) (l : List α) (a b : Nat) : ((recs E l).drop (a * k)).take ((b - a) * k) = recs E ((l.drop a).take (b - a)) := by
  rw [recs_drop, recs_take]
end
end Go.Proofs.YtkbgkobbadjpnaaDoor
