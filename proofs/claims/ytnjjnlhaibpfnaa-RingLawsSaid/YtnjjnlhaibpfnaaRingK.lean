/- What the laws of rings take. -/
import Derived.Test.YtnjjnlhaibpfnaaOut
import Derived.Test.YtnjjnlhaibpfnaaGcdK
namespace Go.Proofs.Ytnjjnlhaibpfnaa
open Go.RowKit
set_option linter.unusedVariables false
set_option linter.unusedSimpArgs false
set_option maxRecDepth 8000
theorem ptr_nil {n : Nat} (w : World) : (Op.equalIn 10000 37 (ptr n) (.pointer none)).run Try.prog w = .ok false w := by
  have h : Try.prog.underlying 37 = some (.pointer 56) := by kernel_rfl
  rw [show (10000 : Nat) = 9999 + 1 from rfl, Op.equalIn, Sem.run_bind, run_underlying h]
  rfl
theorem eq_same {x : Nat} (hx : x < T256) (w : World) : (Op.equalIn 10000 24 (nu x) (nu x)).run Try.prog w = .ok true w := eqNu (decide_eq_true rfl) hx hx w
theorem rem_even {m : Nat} (h : m % 2 = 0) : (limb m 0).tmod 2 = 0 := by
  rw [limb_lw, lw_0]
  have : m % QQ % 2 = 0 := by unfold QQ; omega
  rw [Int.tmod_eq_emod_of_nonneg (by omega)]
  omega
theorem rem_one : (limb 1 0).tmod 2 = 1 := by decide +kernel
/-- Even, or one: no ring. Else there is one. -/
theorem ring_cases (m : Nat) : m % 2 = 0 ∨ m = 1 ∨ (1 < m ∧ m % 2 = 1) := by omega
/-! ### Laws of sums and products -/
theorem r_assoc (m a b c : Nat) : ((a + b) % m + c) % m = (a + (b + c) % m) % m := by rw [Nat.mod_add_mod, Nat.add_mod_mod, Nat.add_assoc]
theorem r_massoc (m a b c : Nat) : a * b % m * c % m = a * (b * c % m) % m := by rw [Nat.mod_mul_mod, Nat.mul_mod_mod, Nat.mul_assoc]
theorem r_dist (m a b c : Nat) : a * ((b + c) % m) % m = (a * b % m + a * c % m) % m := by rw [Nat.mul_mod_mod, Nat.mod_add_mod, Nat.add_mod_mod, Nat.mul_add]
theorem r_back {m : Nat} (h1 : 1 < m) (a b : Nat) : (rsub m a b + b) % m = a % m := by
  unfold rsub
  rw [Nat.mod_add_mod]
  have hb := Nat.mod_lt b (show 0 < m by omega)
  have hd := Nat.div_add_mod b m
  have e : a % m + m - b % m + b = a % m + m * (1 + b / m) := by
    rw [Nat.mul_add, Nat.mul_one]; omega
  rw [e, Nat.add_mul_mod_self_left, Nat.mod_mod]
theorem r_neg {m : Nat} (h1 : 1 < m) (a b : Nat) : rsub m 0 a * rsub m 0 b % m = a * b % m := by
  unfold rsub
  rw [Nat.zero_mod, Nat.zero_add, ← Nat.mul_mod, Nat.mul_mod a b]
  have ha := Nat.mod_lt a (show 0 < m by omega)
  have hb := Nat.mod_lt b (show 0 < m by omega)
  generalize a % m = x at *
  generalize b % m = y at *
  obtain ⟨u, hu⟩ : ∃ u, m = x + u := ⟨m - x, by omega⟩
  obtain ⟨v, hv⟩ : ∃ v, m = y + v := ⟨m - y, by omega⟩
  have e1 : m - x = u := by omega
  have e2 : m - y = v := by omega
  rw [e1, e2]
  have e : u * v + m * y = x * y + m * u := by
    have : m * y = (x + u) * y := by rw [← hu]
    rw [this]
    have : m * u = (y + v) * u := by rw [← hv]
    rw [this]
    grind
  have h := congrArg (· % m) e
  simp only [Nat.add_mul_mod_self_left] at h
  exact h
end Go.Proofs.Ytnjjnlhaibpfnaa
