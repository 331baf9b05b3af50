/- Numbers modulo 2^255 - 19: what Low makes. -/
import Derived.Test.YtpcockfnljdilaaNuA
namespace Go.Proofs.Ytpcockfnljdilaa
def PP : Nat := 57896044618658097711785492504343953926634992332820282019728792003956564819949
theorem PP_T : T256 = 2 * PP + 38 := by decide +kernel
theorem PP_pos : 38 < PP := by decide +kernel
def sinkP (a : Nat) : Nat → Nat
  | 0 => a
  | i + 1 => if PP ≤ sinkP a i then sinkP a i - PP else sinkP a i
theorem sinkP_lt {a : Nat} (ha : a < T256) : ∀ i, sinkP a i < T256
  | 0 => ha
  | i + 1 => by have := sinkP_lt ha i; unfold sinkP; split <;> omega
theorem sinkP_two {a : Nat} (ha : a < T256) : sinkP a 2 = a % PP := by
  have h1 := PP_T
  have h2 := PP_pos
  have e : sinkP a 2 = if PP ≤ sinkP a 1 then sinkP a 1 - PP else sinkP a 1 := rfl
  have e1 : sinkP a 1 = if PP ≤ a then a - PP else a := rfl
  generalize PP = p at *
  rw [e, e1]
  by_cases k1 : p ≤ a
  · rw [if_pos k1]
    by_cases k2 : p ≤ a - p
    · rw [if_pos k2, Nat.mod_eq_sub_mod k1, Nat.mod_eq_sub_mod k2, Nat.mod_eq_of_lt (by omega)]
    · rw [if_neg k2, Nat.mod_eq_sub_mod k1, Nat.mod_eq_of_lt (by omega)]
  · rw [if_neg k1, if_neg k1, Nat.mod_eq_of_lt (by omega)]
end Go.Proofs.Ytpcockfnljdilaa
