/- The walk of limb.Cmp. -/
import Derived.Test.YtglbnbdeoenilaaEqNum
namespace Go.Proofs.Ytglbnbdeoenilaa
open Go.RowKit
set_option linter.unusedVariables false
set_option maxHeartbeats 1000000 in
theorem cmp_3_lt (a0 a1 a2 a3 b0 b1 b2 b3 : Int) (h : a3 < b3) (w : World) :
    Calls Try.prog 41 #[.agg #[.int .u64 a0, .int .u64 a1, .int .u64 a2, .int .u64 a3], .agg #[.int .u64 b0, .int .u64 b1, .int .u64 b2, .int .u64 b3]] w (Ret (.int .i64 (-1)) w) := by
  have dh : decide (a3 < b3) = true := decide_eq_true h
  go_enter Try.func41, Try.ntmps41
  go_wp2
  refine wp_loop_rounds 5 ?_
  rw [rounds_succ]
  go_wp2
  go_region
  go_wp2
  go_returns
  refine ⟨rfl, ?_⟩
  repeat' (first | (with_reducible exact Below.refl _ _) | (with_reducible assumption) | (with_reducible refine up_alloc ?_ _) | (with_reducible refine up ?_ _) | (with_reducible refine up_drew ?_) | (with_reducible refine up_row ?_ ?_ _) | (with_reducible refine up_set ?_ ?_ _) | ((try dsimp only); first | omega | exact le_size | exact le_size1 | exact le_size2 | exact le_size3))
set_option maxHeartbeats 1000000 in
theorem cmp_3_gt (a0 a1 a2 a3 b0 b1 b2 b3 : Int) (h : b3 < a3) (w : World) :
    Calls Try.prog 41 #[.agg #[.int .u64 a0, .int .u64 a1, .int .u64 a2, .int .u64 a3], .agg #[.int .u64 b0, .int .u64 b1, .int .u64 b2, .int .u64 b3]] w (Ret (.int .i64 1) w) := by
  have nl : ¬ a3 < b3 := by omega
  have dn : decide (a3 < b3) = false := decide_eq_false nl
  have dh : decide (b3 < a3) = true := decide_eq_true h
  go_enter Try.func41, Try.ntmps41
  go_wp2
  refine wp_loop_rounds 5 ?_
  rw [rounds_succ]
  go_wp2
  go_region
  go_wp2
  go_region
  go_wp2
  go_returns
  refine ⟨rfl, ?_⟩
  repeat' (first | (with_reducible exact Below.refl _ _) | (with_reducible assumption) | (with_reducible refine up_alloc ?_ _) | (with_reducible refine up ?_ _) | (with_reducible refine up_drew ?_) | (with_reducible refine up_row ?_ ?_ _) | (with_reducible refine up_set ?_ ?_ _) | ((try dsimp only); first | omega | exact le_size | exact le_size1 | exact le_size2 | exact le_size3))
set_option maxHeartbeats 1000000 in
theorem cmp_2_lt (a0 a1 a2 a3 b0 b1 b2 b3 : Int) (l3 : ¬ a3 < b3) (g3 : ¬ b3 < a3) (h : a2 < b2) (w : World) :
    Calls Try.prog 41 #[.agg #[.int .u64 a0, .int .u64 a1, .int .u64 a2, .int .u64 a3], .agg #[.int .u64 b0, .int .u64 b1, .int .u64 b2, .int .u64 b3]] w (Ret (.int .i64 (-1)) w) := by
  have dl3 : decide (a3 < b3) = false := decide_eq_false l3
  have dg3 : decide (b3 < a3) = false := decide_eq_false g3
  have dh : decide (a2 < b2) = true := decide_eq_true h
  go_enter Try.func41, Try.ntmps41
  go_wp2
  refine wp_loop_rounds 5 ?_
  rw [rounds_succ]
  go_wp2
  go_region
  go_wp2
  go_region
  go_wp2
  rw [rounds_succ]
  go_wp2
  go_region
  go_wp2
  go_returns
  refine ⟨rfl, ?_⟩
  repeat' (first | (with_reducible exact Below.refl _ _) | (with_reducible assumption) | (with_reducible refine up_alloc ?_ _) | (with_reducible refine up ?_ _) | (with_reducible refine up_drew ?_) | (with_reducible refine up_row ?_ ?_ _) | (with_reducible refine up_set ?_ ?_ _) | ((try dsimp only); first | omega | exact le_size | exact le_size1 | exact le_size2 | exact le_size3))
set_option maxHeartbeats 1000000 in
theorem cmp_2_gt (a0 a1 a2 a3 b0 b1 b2 b3 : Int) (l3 : ¬ a3 < b3) (g3 : ¬ b3 < a3) (h : b2 < a2) (w : World) :
    Calls Try.prog 41 #[.agg #[.int .u64 a0, .int .u64 a1, .int .u64 a2, .int .u64 a3], .agg #[.int .u64 b0, .int .u64 b1, .int .u64 b2, .int .u64 b3]] w (Ret (.int .i64 1) w) := by
  have nl : ¬ a2 < b2 := by omega
  have dl3 : decide (a3 < b3) = false := decide_eq_false l3
  have dg3 : decide (b3 < a3) = false := decide_eq_false g3
  have dn : decide (a2 < b2) = false := decide_eq_false nl
  have dh : decide (b2 < a2) = true := decide_eq_true h
  go_enter Try.func41, Try.ntmps41
  go_wp2
  refine wp_loop_rounds 5 ?_
  rw [rounds_succ]
  go_wp2
  go_region
  go_wp2
  go_region
  go_wp2
  rw [rounds_succ]
  go_wp2
  go_region
  go_wp2
  go_region
  go_wp2
  go_returns
  refine ⟨rfl, ?_⟩
  repeat' (first | (with_reducible exact Below.refl _ _) | (with_reducible assumption) | (with_reducible refine up_alloc ?_ _) | (with_reducible refine up ?_ _) | (with_reducible refine up_drew ?_) | (with_reducible refine up_row ?_ ?_ _) | (with_reducible refine up_set ?_ ?_ _) | ((try dsimp only); first | omega | exact le_size | exact le_size1 | exact le_size2 | exact le_size3))
set_option maxHeartbeats 1000000 in
theorem cmp_1_lt (a0 a1 a2 a3 b0 b1 b2 b3 : Int) (l3 : ¬ a3 < b3) (g3 : ¬ b3 < a3) (l2 : ¬ a2 < b2) (g2 : ¬ b2 < a2) (h : a1 < b1) (w : World) :
    Calls Try.prog 41 #[.agg #[.int .u64 a0, .int .u64 a1, .int .u64 a2, .int .u64 a3], .agg #[.int .u64 b0, .int .u64 b1, .int .u64 b2, .int .u64 b3]] w (Ret (.int .i64 (-1)) w) := by
  have dl3 : decide (a3 < b3) = false := decide_eq_false l3
  have dg3 : decide (b3 < a3) = false := decide_eq_false g3
  have dl2 : decide (a2 < b2) = false := decide_eq_false l2
  have dg2 : decide (b2 < a2) = false := decide_eq_false g2
  have dh : decide (a1 < b1) = true := decide_eq_true h
  go_enter Try.func41, Try.ntmps41
  go_wp2
  refine wp_loop_rounds 5 ?_
  rw [rounds_succ]
  go_wp2
  go_region
  go_wp2
  go_region
  go_wp2
  rw [rounds_succ]
  go_wp2
  go_region
  go_wp2
  go_region
  go_wp2
  rw [rounds_succ]
  go_wp2
  go_region
  go_wp2
  go_returns
  refine ⟨rfl, ?_⟩
  repeat' (first | (with_reducible exact Below.refl _ _) | (with_reducible assumption) | (with_reducible refine up_alloc ?_ _) | (with_reducible refine up ?_ _) | (with_reducible refine up_drew ?_) | (with_reducible refine up_row ?_ ?_ _) | (with_reducible refine up_set ?_ ?_ _) | ((try dsimp only); first | omega | exact le_size | exact le_size1 | exact le_size2 | exact le_size3))
set_option maxHeartbeats 1000000 in
theorem cmp_1_gt (a0 a1 a2 a3 b0 b1 b2 b3 : Int) (l3 : ¬ a3 < b3) (g3 : ¬ b3 < a3) (l2 : ¬ a2 < b2) (g2 : ¬ b2 < a2) (h : b1 < a1) (w : World) :
    Calls Try.prog 41 #[.agg #[.int .u64 a0, .int .u64 a1, .int .u64 a2, .int .u64 a3], .agg #[.int .u64 b0, .int .u64 b1, .int .u64 b2, .int .u64 b3]] w (Ret (.int .i64 1) w) := by
  have nl : ¬ a1 < b1 := by omega
  have dl3 : decide (a3 < b3) = false := decide_eq_false l3
  have dg3 : decide (b3 < a3) = false := decide_eq_false g3
  have dl2 : decide (a2 < b2) = false := decide_eq_false l2
  have dg2 : decide (b2 < a2) = false := decide_eq_false g2
  have dn : decide (a1 < b1) = false := decide_eq_false nl
  have dh : decide (b1 < a1) = true := decide_eq_true h
  go_enter Try.func41, Try.ntmps41
  go_wp2
  refine wp_loop_rounds 5 ?_
  rw [rounds_succ]
  go_wp2
  go_region
  go_wp2
  go_region
  go_wp2
  rw [rounds_succ]
  go_wp2
  go_region
  go_wp2
  go_region
  go_wp2
  rw [rounds_succ]
  go_wp2
  go_region
  go_wp2
  go_region
  go_wp2
  go_returns
  refine ⟨rfl, ?_⟩
  repeat' (first | (with_reducible exact Below.refl _ _) | (with_reducible assumption) | (with_reducible refine up_alloc ?_ _) | (with_reducible refine up ?_ _) | (with_reducible refine up_drew ?_) | (with_reducible refine up_row ?_ ?_ _) | (with_reducible refine up_set ?_ ?_ _) | ((try dsimp only); first | omega | exact le_size | exact le_size1 | exact le_size2 | exact le_size3))
set_option maxHeartbeats 1000000 in
theorem cmp_0_lt (a0 a1 a2 a3 b0 b1 b2 b3 : Int) (l3 : ¬ a3 < b3) (g3 : ¬ b3 < a3) (l2 : ¬ a2 < b2) (g2 : ¬ b2 < a2) (l1 : ¬ a1 < b1) (g1 : ¬ b1 < a1) (h : a0 < b0) (w : World) :
    Calls Try.prog 41 #[.agg #[.int .u64 a0, .int .u64 a1, .int .u64 a2, .int .u64 a3], .agg #[.int .u64 b0, .int .u64 b1, .int .u64 b2, .int .u64 b3]] w (Ret (.int .i64 (-1)) w) := by
  have dl3 : decide (a3 < b3) = false := decide_eq_false l3
  have dg3 : decide (b3 < a3) = false := decide_eq_false g3
  have dl2 : decide (a2 < b2) = false := decide_eq_false l2
  have dg2 : decide (b2 < a2) = false := decide_eq_false g2
  have dl1 : decide (a1 < b1) = false := decide_eq_false l1
  have dg1 : decide (b1 < a1) = false := decide_eq_false g1
  have dh : decide (a0 < b0) = true := decide_eq_true h
  go_enter Try.func41, Try.ntmps41
  go_wp2
  refine wp_loop_rounds 5 ?_
  rw [rounds_succ]
  go_wp2
  go_region
  go_wp2
  go_region
  go_wp2
  rw [rounds_succ]
  go_wp2
  go_region
  go_wp2
  go_region
  go_wp2
  rw [rounds_succ]
  go_wp2
  go_region
  go_wp2
  go_region
  go_wp2
  rw [rounds_succ]
  go_wp2
  go_region
  go_wp2
  go_returns
  refine ⟨rfl, ?_⟩
  repeat' (first | (with_reducible exact Below.refl _ _) | (with_reducible assumption) | (with_reducible refine up_alloc ?_ _) | (with_reducible refine up ?_ _) | (with_reducible refine up_drew ?_) | (with_reducible refine up_row ?_ ?_ _) | (with_reducible refine up_set ?_ ?_ _) | ((try dsimp only); first | omega | exact le_size | exact le_size1 | exact le_size2 | exact le_size3))
set_option maxHeartbeats 1000000 in
theorem cmp_0_gt (a0 a1 a2 a3 b0 b1 b2 b3 : Int) (l3 : ¬ a3 < b3) (g3 : ¬ b3 < a3) (l2 : ¬ a2 < b2) (g2 : ¬ b2 < a2) (l1 : ¬ a1 < b1) (g1 : ¬ b1 < a1) (h : b0 < a0) (w : World) :
    Calls Try.prog 41 #[.agg #[.int .u64 a0, .int .u64 a1, .int .u64 a2, .int .u64 a3], .agg #[.int .u64 b0, .int .u64 b1, .int .u64 b2, .int .u64 b3]] w (Ret (.int .i64 1) w) := by
  have nl : ¬ a0 < b0 := by omega
  have dl3 : decide (a3 < b3) = false := decide_eq_false l3
  have dg3 : decide (b3 < a3) = false := decide_eq_false g3
  have dl2 : decide (a2 < b2) = false := decide_eq_false l2
  have dg2 : decide (b2 < a2) = false := decide_eq_false g2
  have dl1 : decide (a1 < b1) = false := decide_eq_false l1
  have dg1 : decide (b1 < a1) = false := decide_eq_false g1
  have dn : decide (a0 < b0) = false := decide_eq_false nl
  have dh : decide (b0 < a0) = true := decide_eq_true h
  go_enter Try.func41, Try.ntmps41
  go_wp2
  refine wp_loop_rounds 5 ?_
  rw [rounds_succ]
  go_wp2
  go_region
  go_wp2
  go_region
  go_wp2
  rw [rounds_succ]
  go_wp2
  go_region
  go_wp2
  go_region
  go_wp2
  rw [rounds_succ]
  go_wp2
  go_region
  go_wp2
  go_region
  go_wp2
  rw [rounds_succ]
  go_wp2
  go_region
  go_wp2
  go_region
  go_wp2
  go_returns
  refine ⟨rfl, ?_⟩
  repeat' (first | (with_reducible exact Below.refl _ _) | (with_reducible assumption) | (with_reducible refine up_alloc ?_ _) | (with_reducible refine up ?_ _) | (with_reducible refine up_drew ?_) | (with_reducible refine up_row ?_ ?_ _) | (with_reducible refine up_set ?_ ?_ _) | ((try dsimp only); first | omega | exact le_size | exact le_size1 | exact le_size2 | exact le_size3))
set_option maxHeartbeats 1000000 in
theorem cmp_eq (a0 a1 a2 a3 b0 b1 b2 b3 : Int) (l3 : ¬ a3 < b3) (g3 : ¬ b3 < a3) (l2 : ¬ a2 < b2) (g2 : ¬ b2 < a2) (l1 : ¬ a1 < b1) (g1 : ¬ b1 < a1) (l0 : ¬ a0 < b0) (g0 : ¬ b0 < a0) (w : World) :
    Calls Try.prog 41 #[.agg #[.int .u64 a0, .int .u64 a1, .int .u64 a2, .int .u64 a3], .agg #[.int .u64 b0, .int .u64 b1, .int .u64 b2, .int .u64 b3]] w (Ret (.int .i64 0) w) := by
  have dl3 : decide (a3 < b3) = false := decide_eq_false l3
  have dg3 : decide (b3 < a3) = false := decide_eq_false g3
  have dl2 : decide (a2 < b2) = false := decide_eq_false l2
  have dg2 : decide (b2 < a2) = false := decide_eq_false g2
  have dl1 : decide (a1 < b1) = false := decide_eq_false l1
  have dg1 : decide (b1 < a1) = false := decide_eq_false g1
  have dl0 : decide (a0 < b0) = false := decide_eq_false l0
  have dg0 : decide (b0 < a0) = false := decide_eq_false g0
  go_enter Try.func41, Try.ntmps41
  go_wp2
  refine wp_loop_rounds 5 ?_
  rw [rounds_succ]
  go_wp2
  go_region
  go_wp2
  go_region
  go_wp2
  rw [rounds_succ]
  go_wp2
  go_region
  go_wp2
  go_region
  go_wp2
  rw [rounds_succ]
  go_wp2
  go_region
  go_wp2
  go_region
  go_wp2
  rw [rounds_succ]
  go_wp2
  go_region
  go_wp2
  go_region
  go_wp2
  rw [rounds_succ]
  go_wp2
  go_returns
  refine ⟨rfl, ?_⟩
  repeat' (first | (with_reducible exact Below.refl _ _) | (with_reducible assumption) | (with_reducible refine up_alloc ?_ _) | (with_reducible refine up ?_ _) | (with_reducible refine up_drew ?_) | (with_reducible refine up_row ?_ ?_ _) | (with_reducible refine up_set ?_ ?_ _) | ((try dsimp only); first | omega | exact le_size | exact le_size1 | exact le_size2 | exact le_size3))
def cmpI (a b : Nat) : Int := if a < b then -1 else if a = b then 0 else 1
theorem cmp_all (a b : Nat) (ha : a < T256) (hb : b < T256) (w : World) : Calls Try.prog 41 #[num a, num b] w (Ret (.int .i64 (cmpI a b)) w) := by
  obtain ⟨a0, a1, a2, a3, k0, k1, k2, k3, rfl⟩ := four_of a ha
  obtain ⟨b0, b1, b2, b3, l0, l1, l2, l3, rfl⟩ := four_of b hb
  have k := limb_four a0 a1 a2 a3 k0 k1 k2 k3
  have l := limb_four b0 b1 b2 b3 l0 l1 l2 l3
  have lt (h : four a0 a1 a2 a3 < four b0 b1 b2 b3) : cmpI (four a0 a1 a2 a3) (four b0 b1 b2 b3) = -1 := by unfold cmpI; rw [if_pos h]
  have gt (h : four b0 b1 b2 b3 < four a0 a1 a2 a3) : cmpI (four a0 a1 a2 a3) (four b0 b1 b2 b3) = 1 := by unfold cmpI; rw [if_neg (by omega), if_neg (by omega)]
  have eq (h : four a0 a1 a2 a3 = four b0 b1 b2 b3) : cmpI (four a0 a1 a2 a3) (four b0 b1 b2 b3) = 0 := by unfold cmpI; rw [if_neg (by omega), if_pos h]
  simp only [num, k.1, k.2.1, k.2.2.1, k.2.2.2, l.1, l.2.1, l.2.2.1, l.2.2.2]
  clear k l ha hb
  by_cases p3 : a3 < b3
  · rw [lt (by unfold four; omega)]; exact cmp_3_lt _ _ _ _ _ _ _ _  (by omega) w
  by_cases q3 : b3 < a3
  · rw [gt (by unfold four; omega)]; exact cmp_3_gt _ _ _ _ _ _ _ _  (by omega) w
  by_cases p2 : a2 < b2
  · rw [lt (by unfold four; omega)]; exact cmp_2_lt _ _ _ _ _ _ _ _ (by omega) (by omega) (by omega) w
  by_cases q2 : b2 < a2
  · rw [gt (by unfold four; omega)]; exact cmp_2_gt _ _ _ _ _ _ _ _ (by omega) (by omega) (by omega) w
  by_cases p1 : a1 < b1
  · rw [lt (by unfold four; omega)]; exact cmp_1_lt _ _ _ _ _ _ _ _ (by omega) (by omega) (by omega) (by omega) (by omega) w
  by_cases q1 : b1 < a1
  · rw [gt (by unfold four; omega)]; exact cmp_1_gt _ _ _ _ _ _ _ _ (by omega) (by omega) (by omega) (by omega) (by omega) w
  by_cases p0 : a0 < b0
  · rw [lt (by unfold four; omega)]; exact cmp_0_lt _ _ _ _ _ _ _ _ (by omega) (by omega) (by omega) (by omega) (by omega) (by omega) (by omega) w
  by_cases q0 : b0 < a0
  · rw [gt (by unfold four; omega)]; exact cmp_0_gt _ _ _ _ _ _ _ _ (by omega) (by omega) (by omega) (by omega) (by omega) (by omega) (by omega) w
  rw [eq (by unfold four; omega)]; exact cmp_eq _ _ _ _ _ _ _ _ (by omega) (by omega) (by omega) (by omega) (by omega) (by omega) (by omega) (by omega) w
end Go.Proofs.Ytglbnbdeoenilaa
