/- EUCLID: an inverse by his steps. Plain laws. -/
import Derived.Test.YtglbnbdeoenilaaQuot
import Derived.Test.YtglbnbdeoenilaaNuW
import Derived.Test.YtglbnbdeoenilaaNuA
import Derived.Test.YtglbnbdeoenilaaNuLit
import Derived.Test.YtglbnbdeoenilaaEqWide
namespace Go.Proofs.Ytglbnbdeoenilaa
set_option linter.unusedVariables false
/-- What is left at last, and how often. -/
def invF (m : Nat) (r0 r1 s0 s1 : Nat) : Nat × Nat :=
  if h : r1 = 0 then (r0, s0) else invF m r1 (r0 % r1) s1 ((s0 + m - r0 / r1 * s1 % m) % m)
termination_by r1
decreasing_by exact Nat.mod_lt _ (Nat.pos_of_ne_zero h)
theorem invF_end (m r0 s0 s1 : Nat) : invF m r0 0 s0 s1 = (r0, s0) := by rw [invF, dif_pos rfl]
theorem invF_step {m r0 r1 s0 s1 : Nat} (h : r1 ≠ 0) : invF m r0 r1 s0 s1 = invF m r1 (r0 % r1) s1 ((s0 + m - r0 / r1 * s1 % m) % m) := by rw [invF, dif_neg h]
theorem sub_mod_mul {m a s0 s1 r0 r1 q : Nat} (hm : 0 < m) (hs : s0 < m) (h0 : s0 * a % m = r0 % m) (h1 : s1 * a % m = r1 % m) (hq : q * r1 ≤ r0) : (s0 + m - q * s1 % m) % m * a % m = (r0 - q * r1) % m := by
  have hlt := Nat.mod_lt (q * s1) hm
  have hz : ∀ x y z : Int, x % m = y % m → (x - z) % m = (y - z) % m := fun x y z h => by rw [Int.sub_emod, h, ← Int.sub_emod]
  have e1 : (((s0 + m - q * s1 % m) % m * a % m : Nat) : Int) = (((s0 : Int) + m - (q * s1 % m : Nat)) * a) % m := by
    rw [Int.natCast_emod, Int.natCast_mul, Int.natCast_emod, Int.natCast_sub (by omega), Int.natCast_add]
    rw [Int.mul_emod, Int.emod_emod_of_dvd _ (Int.dvd_refl _), ← Int.mul_emod]
  have e2 : (((r0 - q * r1) % m : Nat) : Int) = ((r0 : Int) - q * r1) % m := by
    rw [Int.natCast_emod, Int.natCast_sub hq, Int.natCast_mul]
  have h0' : ((s0 : Int) * a) % m = (r0 : Int) % m := by exact_mod_cast h0
  have h1' : ((s1 : Int) * a) % m = (r1 : Int) % m := by exact_mod_cast h1
  have e3 : (((s0 : Int) + m - (q * s1 % m : Nat)) * a) % m = ((r0 : Int) - q * r1) % m := by
    rw [Int.natCast_emod, Int.natCast_mul]
    have a1 : (((s0 : Int) + m - (q * s1 : Int) % m) * a) % m = (((s0 : Int) - q * s1) * a) % m := by
      rw [Int.mul_emod, Int.sub_emod, Int.add_emod_right, Int.emod_emod_of_dvd _ (Int.dvd_refl _), ← Int.sub_emod, ← Int.mul_emod]
    rw [a1, Int.sub_mul, Int.sub_emod, h0', Int.mul_assoc, Int.mul_emod (q : Int), h1', ← Int.mul_emod, ← Int.sub_emod]
  have : (((s0 + m - q * s1 % m) % m * a % m : Nat) : Int) = (((r0 - q * r1) % m : Nat) : Int) := by rw [e1, e2, e3]
  exact_mod_cast this
theorem invF_spec {m a : Nat} (hm : 0 < m) : ∀ (r1 r0 s0 s1 : Nat), s0 < m → s1 < m → s0 * a % m = r0 % m → s1 * a % m = r1 % m →
    (invF m r0 r1 s0 s1).1 = Nat.gcd r0 r1 ∧ (invF m r0 r1 s0 s1).2 < m ∧ (invF m r0 r1 s0 s1).2 * a % m = Nat.gcd r0 r1 % m := by
  intro r1
  induction r1 using Nat.strongRecOn with
  | _ r1 ih =>
    intro r0 s0 s1 h0 h1 e0 e1
    by_cases hr : r1 = 0
    · subst hr
      rw [invF_end, Nat.gcd_zero_right]
      exact ⟨rfl, h0, e0⟩
    · have hpos := Nat.pos_of_ne_zero hr
      have hq : r0 / r1 * r1 ≤ r0 := Nat.div_mul_le_self r0 r1
      have e2 := sub_mod_mul hm h0 e0 e1 hq
      have er : r0 - r0 / r1 * r1 = r0 % r1 := by
        have := Nat.div_add_mod r0 r1
        rw [Nat.mul_comm] at this
        omega
      rw [er] at e2
      have := ih (r0 % r1) (Nat.mod_lt _ hpos) r1 s1 ((s0 + m - r0 / r1 * s1 % m) % m) h1 (Nat.mod_lt _ hm) e1 e2
      rw [invF_step hr, Nat.gcd_comm r0 r1, Nat.gcd_rec r1 r0, Nat.gcd_comm (r0 % r1) r1]
      exact this
/-- The start. -/
theorem invF_start {m a : Nat} (hm : 1 < m) : (invF m m (a % m) 0 1).1 = Nat.gcd a m ∧ (invF m m (a % m) 0 1).2 < m ∧ (invF m m (a % m) 0 1).2 * a % m = Nat.gcd a m % m := by
  have h := invF_spec (m := m) (a := a) (by omega) (a % m) m 0 1 (by omega) hm (by rw [Nat.zero_mul, Nat.mod_self, Nat.zero_mod]) (by rw [Nat.one_mul, Nat.mod_mod])
  have e : Nat.gcd m (a % m) = Nat.gcd a m := by rw [Nat.gcd_comm m, ← Nat.gcd_rec, Nat.gcd_comm]
  rw [e] at h
  exact h
end Go.Proofs.Ytglbnbdeoenilaa
