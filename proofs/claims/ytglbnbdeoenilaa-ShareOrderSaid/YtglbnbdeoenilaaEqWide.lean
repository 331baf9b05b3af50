/- When two wide numbers are told alike. -/
import Derived.Test.YtglbnbdeoenilaaEqNum
namespace Go.Proofs.Ytglbnbdeoenilaa
open Go.RowKit
set_option maxRecDepth 100000
set_option linter.unusedVariables false
theorem T256_pos : 0 < T256 := by unfold T256; omega
theorem lt_T512 {a : Nat} (ha : a < T256) : a < T512 := Nat.lt_of_lt_of_le ha (Nat.le_mul_of_pos_left T256 T256_pos)
theorem T512_pos : 0 < T512 := by unfold T512 T256; omega
theorem div_lt_T {a : Nat} (h : a < T512) : a / T256 < T256 := Nat.div_lt_of_lt_mul h
theorem mod_lt_T (a : Nat) : a % T256 < T256 := Nat.mod_lt _ T256_pos
theorem eql_wide (a b : Nat) (ha : a < T512) (hb : b < T512) (w : World) :
    (Op.equalIn 10000 89 (wide a) (wide b)).run Try.prog w = .ok (decide (a = b)) w := by
  have h := eql_ints (P := Try.prog) (t := 89) (e := 31) (k := .u64) (k' := .u64) w 9998 8 [limb a 0, limb a 1, limb a 2, limb a 3, limb a 4, limb a 5, limb a 6, limb a 7] [limb b 0, limb b 1, limb b 2, limb b 3, limb b 4, limb b 5, limb b 6, limb b 7] (by kernel_rfl) (by kernel_rfl) rfl (by kernel_rfl) rfl rfl rfl
  have e : (([limb a 0, limb a 1, limb a 2, limb a 3, limb a 4, limb a 5, limb a 6, limb a 7] : List Int) == [limb b 0, limb b 1, limb b 2, limb b 3, limb b 4, limb b 5, limb b 6, limb b 7]) = decide (a = b) := by
    by_cases hab : a = b
    · subst hab; simp
    · rw [decide_eq_false hab]
      refine Bool.eq_false_iff.mpr fun hh => hab ?_
      have e := List.cons.inj (beq_iff_eq.mp hh)
      obtain ⟨e0, e⟩ := e
      obtain ⟨e1, e⟩ := List.cons.inj e
      obtain ⟨e2, e⟩ := List.cons.inj e
      obtain ⟨e3, e⟩ := List.cons.inj e
      obtain ⟨e4, e⟩ := List.cons.inj e
      obtain ⟨e5, e⟩ := List.cons.inj e
      obtain ⟨e6, e⟩ := List.cons.inj e
      obtain ⟨e7, e⟩ := List.cons.inj e
      have l (n i : Nat) (hi : i < 4) : limb n i = limb (n % T256) i := by have := limb_lo n 0 i hi; simpa using this.symm
      rw [l a 0 (by omega), l b 0 (by omega)] at e0
      rw [l a 1 (by omega), l b 1 (by omega)] at e1
      rw [l a 2 (by omega), l b 2 (by omega)] at e2
      rw [l a 3 (by omega), l b 3 (by omega)] at e3
      have q1 := num_inj (mod_lt_T a) (mod_lt_T b) e0 e1 e2 e3
      have q2 := num_inj (div_lt_T ha) (div_lt_T hb) ((limb_shift4 a 0).symm.trans (e4.trans (limb_shift4 b 0))) ((limb_shift4 a 1).symm.trans (e5.trans (limb_shift4 b 1))) ((limb_shift4 a 2).symm.trans (e6.trans (limb_shift4 b 2))) ((limb_shift4 a 3).symm.trans (e7.trans (limb_shift4 b 3)))
      rw [← Nat.mod_add_div a T256, ← Nat.mod_add_div b T256, q1, q2]
  rw [e] at h
  exact h
end Go.Proofs.Ytglbnbdeoenilaa
