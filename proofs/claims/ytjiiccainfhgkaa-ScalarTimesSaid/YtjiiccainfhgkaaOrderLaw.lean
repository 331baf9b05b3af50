/- How often counts modulo L for the base; eight times any point, L times, is Zero. Plain laws. -/
import Derived.Test.YtjiiccainfhgkaaOrderCert
import Derived.Test.YtjiiccainfhgkaaEdwAll
import Derived.Test.YtjiiccainfhgkaaScalar
namespace Go.Proofs.Ytjiiccainfhgkaa
set_option linter.unusedVariables false
theorem prime_SL : Prime SL := prime_L
theorem base_LL : E0.smul SL Pt.base.f = P2.zero := base_L
theorem base_ne : Pt.base.f ≠ P2.zero := fun h => absurd (congrArg P2.x h) (by decide +kernel)
theorem T8_ne : E0.smul 4 T8.f ≠ P2.zero := fun h => by
  rw [T8_four] at h
  exact absurd (congrArg P2.y h) (by decide +kernel)
theorem order_f {P : P2 PP} (h : E0.on P) : E0.smul (8 * SL) P = P2.zero :=
  E0.order (T := T8.f) prime_SL base_on.f base_LL base_ne T8_on.f T8_eight T8_ne (by decide +kernel) (by decide +kernel) h
theorem pt_of {p q : Pt} (hp : p.red) (hq : q.red) (h : p.f = q.f) : p = q := Pt.eq_of hp hq h
theorem base_zero : Pt.base.times SL = Pt.zero := Pt.eq_of (times_red _ _) zero_red (by rw [times_f base_on, base_LL]; rfl)
theorem base_low (m : Nat) : Pt.base.times m = Pt.base.times (slow m) := Pt.eq_of (times_red _ _) (times_red _ _) (by
  rw [times_f base_on, times_f base_on, slow_def, E0.smul_mod base_on.f base_LL])
theorem base_iff (m : Nat) : Pt.base.times m = Pt.zero ↔ slow m = 0 := by
  rw [slow_def, ← E0.smul_prime base_on.f prime_SL base_LL base_ne m, ← times_f base_on]
  exact ⟨fun h => by rw [h]; rfl, fun h => Pt.eq_of (times_red _ _) zero_red h⟩
theorem eight_L {p : Pt} (hp : p.on) : (p.times 8).times SL = Pt.zero := Pt.eq_of (times_red _ _) zero_red (by
  rw [times_f (times_on hp 8), times_f hp, E0.smul_smul hp.f, Nat.mul_comm, order_f hp.f]; rfl)
end Go.Proofs.Ytjiiccainfhgkaa
