/- limb.Pick. -/
import Derived.Test.YtjiiccainfhgkaaEqNum
import Derived.Test.YtjiiccainfhgkaaNumAll
namespace Go.Proofs.Ytjiiccainfhgkaa
open Go.RowKit
set_option linter.unusedVariables false
set_option maxHeartbeats 1000000 in
theorem pick_even (a0 a1 a2 a3 b0 b1 b2 b3 c : Int) (hc : bits .and .u64 c 1 = 0) (x0 : bits .xor .u64 a0 (bits .and .u64 (0) (bits .xor .u64 a0 b0)) = a0) (x1 : bits .xor .u64 a1 (bits .and .u64 (0) (bits .xor .u64 a1 b1)) = a1) (x2 : bits .xor .u64 a2 (bits .and .u64 (0) (bits .xor .u64 a2 b2)) = a2) (x3 : bits .xor .u64 a3 (bits .and .u64 (0) (bits .xor .u64 a3 b3)) = a3) (w : World) :
    Calls Try.prog 73 #[.int .u64 c, .agg #[.int .u64 a0, .int .u64 a1, .int .u64 a2, .int .u64 a3], .agg #[.int .u64 b0, .int .u64 b1, .int .u64 b2, .int .u64 b3]] w (Ret (.agg #[.int .u64 a0, .int .u64 a1, .int .u64 a2, .int .u64 a3]) w) := by
  go_enter Try.func73, Try.ntmps73
  go_wp2
  refine wp_loop_rounds 5 ?_
  rw [rounds_succ]
  go_wp2
  go_region
  go_wp2
  rw [rounds_succ]
  go_wp2
  go_region
  go_wp2
  rw [rounds_succ]
  go_wp2
  go_region
  go_wp2
  rw [rounds_succ]
  go_wp2
  go_region
  go_wp2
  rw [rounds_succ]
  go_wp2
  go_returns
  refine ⟨rfl, ?_⟩
  repeat' (first | (with_reducible exact Below.refl _ _) | (with_reducible assumption) | (with_reducible refine up_alloc ?_ _) | (with_reducible refine up ?_ _) | (with_reducible refine up_drew ?_) | (with_reducible refine up_row ?_ ?_ _) | (with_reducible refine up_set ?_ ?_ _) | ((try dsimp only); first | omega | exact le_size | exact le_size1 | exact le_size2 | exact le_size3))
set_option maxHeartbeats 1000000 in
theorem pick_odd (a0 a1 a2 a3 b0 b1 b2 b3 c : Int) (hc : bits .and .u64 c 1 = 1) (x0 : bits .xor .u64 a0 (bits .and .u64 (IntKind.u64.wrap (-1)) (bits .xor .u64 a0 b0)) = b0) (x1 : bits .xor .u64 a1 (bits .and .u64 (IntKind.u64.wrap (-1)) (bits .xor .u64 a1 b1)) = b1) (x2 : bits .xor .u64 a2 (bits .and .u64 (IntKind.u64.wrap (-1)) (bits .xor .u64 a2 b2)) = b2) (x3 : bits .xor .u64 a3 (bits .and .u64 (IntKind.u64.wrap (-1)) (bits .xor .u64 a3 b3)) = b3) (w : World) :
    Calls Try.prog 73 #[.int .u64 c, .agg #[.int .u64 a0, .int .u64 a1, .int .u64 a2, .int .u64 a3], .agg #[.int .u64 b0, .int .u64 b1, .int .u64 b2, .int .u64 b3]] w (Ret (.agg #[.int .u64 b0, .int .u64 b1, .int .u64 b2, .int .u64 b3]) w) := by
  go_enter Try.func73, Try.ntmps73
  go_wp2
  refine wp_loop_rounds 5 ?_
  rw [rounds_succ]
  go_wp2
  go_region
  go_wp2
  rw [rounds_succ]
  go_wp2
  go_region
  go_wp2
  rw [rounds_succ]
  go_wp2
  go_region
  go_wp2
  rw [rounds_succ]
  go_wp2
  go_region
  go_wp2
  rw [rounds_succ]
  go_wp2
  go_returns
  refine ⟨rfl, ?_⟩
  repeat' (first | (with_reducible exact Below.refl _ _) | (with_reducible assumption) | (with_reducible refine up_alloc ?_ _) | (with_reducible refine up ?_ _) | (with_reducible refine up_drew ?_) | (with_reducible refine up_row ?_ ?_ _) | (with_reducible refine up_set ?_ ?_ _) | ((try dsimp only); first | omega | exact le_size | exact le_size1 | exact le_size2 | exact le_size3))
theorem xor_sel0 (x y : Nat) (hx : x < 18446744073709551616) (hy : y < 18446744073709551616) : bits .xor .u64 (x : Int) (bits .and .u64 (0) (bits .xor .u64 (x : Int) (y : Int))) = x := by
  rw [bits_xor_u64_nat x y hx hy, show (0 : Int) = ((0 : Nat) : Int) from rfl, bits_and_u64_nat _ _ (by omega) (Nat.xor_lt_two_pow (n := 64) hx hy), Nat.zero_and, bits_xor_u64_nat _ _ hx (by omega), Nat.xor_zero]
theorem xor_sel1 (x y : Nat) (hx : x < 18446744073709551616) (hy : y < 18446744073709551616) : bits .xor .u64 (x : Int) (bits .and .u64 (IntKind.u64.wrap (-1)) (bits .xor .u64 (x : Int) (y : Int))) = y := by
  have hxy : x ^^^ y < 2 ^ 64 := Nat.xor_lt_two_pow hx hy
  have e : (2 ^ 64 - 1) &&& (x ^^^ y) = x ^^^ y := by rw [Nat.and_comm, Nat.and_two_pow_sub_one_eq_mod, Nat.mod_eq_of_lt hxy]
  rw [bits_xor_u64_nat x y hx hy, show IntKind.u64.wrap (-1) = ((2 ^ 64 - 1 : Nat) : Int) by decide, bits_and_u64_nat _ _ (by omega) hxy, e, bits_xor_u64_nat _ _ hx hxy, ← Nat.xor_assoc, Nat.xor_self, Nat.zero_xor]
theorem pick_all (c a b : Nat) (hc : c < 18446744073709551616) (ha : a < T256) (hb : b < T256) (w : World) : Calls Try.prog 73 #[.int .u64 c, num a, num b] w (Ret (num (if c % 2 = 0 then a else b)) w) := by
  have h1 : bits .and .u64 (c : Int) 1 = ((c % 2 : Nat) : Int) := by
    rw [show (1 : Int) = ((1 : Nat) : Int) from rfl, bits_and_u64_nat _ _ hc (by omega), Nat.and_one_is_mod]
  have la := lw_lt a
  have lb := lw_lt b
  by_cases h : c % 2 = 0
  · rw [if_pos h]
    rw [h] at h1
    simp only [num, limb_lw]
    exact pick_even _ _ _ _ _ _ _ _ _ h1 (xor_sel0 _ _ (la 0) (lb 0)) (xor_sel0 _ _ (la 1) (lb 1)) (xor_sel0 _ _ (la 2) (lb 2)) (xor_sel0 _ _ (la 3) (lb 3)) w
  · rw [if_neg h]
    rw [show c % 2 = 1 by omega] at h1
    simp only [num, limb_lw]
    exact pick_odd _ _ _ _ _ _ _ _ _ h1 (xor_sel1 _ _ (la 0) (lb 0)) (xor_sel1 _ _ (la 1) (lb 1)) (xor_sel1 _ _ (la 2) (lb 2)) (xor_sel1 _ _ (la 3) (lb 3)) w
end Go.Proofs.Ytjiiccainfhgkaa
