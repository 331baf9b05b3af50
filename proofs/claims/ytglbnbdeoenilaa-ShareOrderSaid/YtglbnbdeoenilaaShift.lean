/- The walks of limb.Shift. -/
import Derived.Test.YtglbnbdeoenilaaEqNum
namespace Go.Proofs.Ytglbnbdeoenilaa
open Go.RowKit
set_option linter.unusedVariables false
set_option maxHeartbeats 1000000 in
theorem shl_w0 (a0 a1 a2 a3 : Int) (n k : Int) (h0 : 0 ≤ n) (h1 : n ≤ 255) (hq : n / 64 = 0) (hr : n % 64 = k) (k0 : 0 ≤ k) (k1 : k < 64) (w : World) :
    Calls Try.prog 66 #[.agg #[.int .u64 a0, .int .u64 a1, .int .u64 a2, .int .u64 a3], .int .i64 n] w (Ret (.agg #[.int .u64 (IntKind.u64.wrap (a0 * 2 ^ k.toNat)), .int .u64 (bits .or .u64 (IntKind.u64.wrap (a1 * 2 ^ k.toNat)) (a0 / 2 ^ (64 - k).toNat)), .int .u64 (bits .or .u64 (IntKind.u64.wrap (a2 * 2 ^ k.toNat)) (a1 / 2 ^ (64 - k).toNat)), .int .u64 (bits .or .u64 (IntKind.u64.wrap (a3 * 2 ^ k.toNat)) (a2 / 2 ^ (64 - k).toNat))]) w) := by
  have n1 : ¬ 255 < n := by omega
  have n2 : ¬ n < -255 := by omega
  go_enter Try.func66, Try.ntmps66
  go_wp2
  refine wp_loop_rounds 5 ?_
  rw [rounds_succ]
  go_wp2
  rw [rounds_succ]
  go_wp2
  go_region
  go_wp2
  rw [rounds_succ]
  go_wp2
  go_region
  go_wp2
  rw [rounds_succ]
  go_wp2
  go_region
  go_wp2
  rw [rounds_succ]
  go_wp2
  go_returns
  refine ⟨rfl, ?_⟩
  repeat' (first | (with_reducible exact Below.refl _ _) | (with_reducible assumption) | (with_reducible refine up_alloc ?_ _) | (with_reducible refine up ?_ _) | (with_reducible refine up_drew ?_) | (with_reducible refine up_row ?_ ?_ _) | (with_reducible refine up_set ?_ ?_ _) | ((try dsimp only); first | omega | exact le_size | exact le_size1 | exact le_size2 | exact le_size3))
set_option maxHeartbeats 1000000 in
theorem shl_w1 (a0 a1 a2 a3 : Int) (n k : Int) (h0 : 0 ≤ n) (h1 : n ≤ 255) (hq : n / 64 = 1) (hr : n % 64 = k) (k0 : 0 ≤ k) (k1 : k < 64) (w : World) :
    Calls Try.prog 66 #[.agg #[.int .u64 a0, .int .u64 a1, .int .u64 a2, .int .u64 a3], .int .i64 n] w (Ret (.agg #[.int .u64 (0), .int .u64 (IntKind.u64.wrap (a0 * 2 ^ k.toNat)), .int .u64 (bits .or .u64 (IntKind.u64.wrap (a1 * 2 ^ k.toNat)) (a0 / 2 ^ (64 - k).toNat)), .int .u64 (bits .or .u64 (IntKind.u64.wrap (a2 * 2 ^ k.toNat)) (a1 / 2 ^ (64 - k).toNat))]) w) := by
  have n1 : ¬ 255 < n := by omega
  have n2 : ¬ n < -255 := by omega
  go_enter Try.func66, Try.ntmps66
  go_wp2
  refine wp_loop_rounds 5 ?_
  rw [rounds_succ]
  go_wp2
  rw [rounds_succ]
  go_wp2
  go_region
  go_wp2
  rw [rounds_succ]
  go_wp2
  go_region
  go_wp2
  rw [rounds_succ]
  go_wp2
  go_returns
  refine ⟨rfl, ?_⟩
  repeat' (first | (with_reducible exact Below.refl _ _) | (with_reducible assumption) | (with_reducible refine up_alloc ?_ _) | (with_reducible refine up ?_ _) | (with_reducible refine up_drew ?_) | (with_reducible refine up_row ?_ ?_ _) | (with_reducible refine up_set ?_ ?_ _) | ((try dsimp only); first | omega | exact le_size | exact le_size1 | exact le_size2 | exact le_size3))
set_option maxHeartbeats 1000000 in
theorem shl_w2 (a0 a1 a2 a3 : Int) (n k : Int) (h0 : 0 ≤ n) (h1 : n ≤ 255) (hq : n / 64 = 2) (hr : n % 64 = k) (k0 : 0 ≤ k) (k1 : k < 64) (w : World) :
    Calls Try.prog 66 #[.agg #[.int .u64 a0, .int .u64 a1, .int .u64 a2, .int .u64 a3], .int .i64 n] w (Ret (.agg #[.int .u64 (0), .int .u64 (0), .int .u64 (IntKind.u64.wrap (a0 * 2 ^ k.toNat)), .int .u64 (bits .or .u64 (IntKind.u64.wrap (a1 * 2 ^ k.toNat)) (a0 / 2 ^ (64 - k).toNat))]) w) := by
  have n1 : ¬ 255 < n := by omega
  have n2 : ¬ n < -255 := by omega
  go_enter Try.func66, Try.ntmps66
  go_wp2
  refine wp_loop_rounds 5 ?_
  rw [rounds_succ]
  go_wp2
  rw [rounds_succ]
  go_wp2
  go_region
  go_wp2
  rw [rounds_succ]
  go_wp2
  go_returns
  refine ⟨rfl, ?_⟩
  repeat' (first | (with_reducible exact Below.refl _ _) | (with_reducible assumption) | (with_reducible refine up_alloc ?_ _) | (with_reducible refine up ?_ _) | (with_reducible refine up_drew ?_) | (with_reducible refine up_row ?_ ?_ _) | (with_reducible refine up_set ?_ ?_ _) | ((try dsimp only); first | omega | exact le_size | exact le_size1 | exact le_size2 | exact le_size3))
set_option maxHeartbeats 1000000 in
theorem shl_w3 (a0 a1 a2 a3 : Int) (n k : Int) (h0 : 0 ≤ n) (h1 : n ≤ 255) (hq : n / 64 = 3) (hr : n % 64 = k) (k0 : 0 ≤ k) (k1 : k < 64) (w : World) :
    Calls Try.prog 66 #[.agg #[.int .u64 a0, .int .u64 a1, .int .u64 a2, .int .u64 a3], .int .i64 n] w (Ret (.agg #[.int .u64 (0), .int .u64 (0), .int .u64 (0), .int .u64 (IntKind.u64.wrap (a0 * 2 ^ k.toNat))]) w) := by
  have n1 : ¬ 255 < n := by omega
  have n2 : ¬ n < -255 := by omega
  go_enter Try.func66, Try.ntmps66
  go_wp2
  refine wp_loop_rounds 5 ?_
  rw [rounds_succ]
  go_wp2
  rw [rounds_succ]
  go_wp2
  go_returns
  refine ⟨rfl, ?_⟩
  repeat' (first | (with_reducible exact Below.refl _ _) | (with_reducible assumption) | (with_reducible refine up_alloc ?_ _) | (with_reducible refine up ?_ _) | (with_reducible refine up_drew ?_) | (with_reducible refine up_row ?_ ?_ _) | (with_reducible refine up_set ?_ ?_ _) | ((try dsimp only); first | omega | exact le_size | exact le_size1 | exact le_size2 | exact le_size3))
set_option maxHeartbeats 1000000 in
theorem shr_w0 (a0 a1 a2 a3 : Int) (n m k : Int) (h0 : n < 0) (h1 : -255 ≤ n) (hm : -n = m) (hq : m / 64 = 0) (hr : m % 64 = k) (k0 : 0 ≤ k) (k1 : k < 64) (m0 : 0 < m) (m1 : m ≤ 255) (w : World) :
    Calls Try.prog 66 #[.agg #[.int .u64 a0, .int .u64 a1, .int .u64 a2, .int .u64 a3], .int .i64 n] w (Ret (.agg #[.int .u64 (bits .or .u64 (a0 / 2 ^ k.toNat) (IntKind.u64.wrap (a1 * 2 ^ (64 - k).toNat))), .int .u64 (bits .or .u64 (a1 / 2 ^ k.toNat) (IntKind.u64.wrap (a2 * 2 ^ (64 - k).toNat))), .int .u64 (bits .or .u64 (a2 / 2 ^ k.toNat) (IntKind.u64.wrap (a3 * 2 ^ (64 - k).toNat))), .int .u64 (a3 / 2 ^ k.toNat)]) w) := by
  have n1 : ¬ 255 < n := by omega
  have n2 : ¬ n < -255 := by omega
  have n3 : ¬ 0 ≤ n := by omega
  go_enter Try.func66, Try.ntmps66
  go_wp2
  refine wp_loop_rounds 5 ?_
  rw [rounds_succ]
  go_wp2
  go_region
  go_wp2
  rw [rounds_succ]
  go_wp2
  go_region
  go_wp2
  rw [rounds_succ]
  go_wp2
  go_region
  go_wp2
  rw [rounds_succ]
  go_wp2
  rw [rounds_succ]
  go_wp2
  go_returns
  refine ⟨rfl, ?_⟩
  repeat' (first | (with_reducible exact Below.refl _ _) | (with_reducible assumption) | (with_reducible refine up_alloc ?_ _) | (with_reducible refine up ?_ _) | (with_reducible refine up_drew ?_) | (with_reducible refine up_row ?_ ?_ _) | (with_reducible refine up_set ?_ ?_ _) | ((try dsimp only); first | omega | exact le_size | exact le_size1 | exact le_size2 | exact le_size3))
set_option maxHeartbeats 1000000 in
theorem shr_w1 (a0 a1 a2 a3 : Int) (n m k : Int) (h0 : n < 0) (h1 : -255 ≤ n) (hm : -n = m) (hq : m / 64 = 1) (hr : m % 64 = k) (k0 : 0 ≤ k) (k1 : k < 64) (m0 : 0 < m) (m1 : m ≤ 255) (w : World) :
    Calls Try.prog 66 #[.agg #[.int .u64 a0, .int .u64 a1, .int .u64 a2, .int .u64 a3], .int .i64 n] w (Ret (.agg #[.int .u64 (bits .or .u64 (a1 / 2 ^ k.toNat) (IntKind.u64.wrap (a2 * 2 ^ (64 - k).toNat))), .int .u64 (bits .or .u64 (a2 / 2 ^ k.toNat) (IntKind.u64.wrap (a3 * 2 ^ (64 - k).toNat))), .int .u64 (a3 / 2 ^ k.toNat), .int .u64 (0)]) w) := by
  have n1 : ¬ 255 < n := by omega
  have n2 : ¬ n < -255 := by omega
  have n3 : ¬ 0 ≤ n := by omega
  go_enter Try.func66, Try.ntmps66
  go_wp2
  refine wp_loop_rounds 5 ?_
  rw [rounds_succ]
  go_wp2
  go_region
  go_wp2
  rw [rounds_succ]
  go_wp2
  go_region
  go_wp2
  rw [rounds_succ]
  go_wp2
  rw [rounds_succ]
  go_wp2
  go_returns
  refine ⟨rfl, ?_⟩
  repeat' (first | (with_reducible exact Below.refl _ _) | (with_reducible assumption) | (with_reducible refine up_alloc ?_ _) | (with_reducible refine up ?_ _) | (with_reducible refine up_drew ?_) | (with_reducible refine up_row ?_ ?_ _) | (with_reducible refine up_set ?_ ?_ _) | ((try dsimp only); first | omega | exact le_size | exact le_size1 | exact le_size2 | exact le_size3))
set_option maxHeartbeats 1000000 in
theorem shr_w2 (a0 a1 a2 a3 : Int) (n m k : Int) (h0 : n < 0) (h1 : -255 ≤ n) (hm : -n = m) (hq : m / 64 = 2) (hr : m % 64 = k) (k0 : 0 ≤ k) (k1 : k < 64) (m0 : 0 < m) (m1 : m ≤ 255) (w : World) :
    Calls Try.prog 66 #[.agg #[.int .u64 a0, .int .u64 a1, .int .u64 a2, .int .u64 a3], .int .i64 n] w (Ret (.agg #[.int .u64 (bits .or .u64 (a2 / 2 ^ k.toNat) (IntKind.u64.wrap (a3 * 2 ^ (64 - k).toNat))), .int .u64 (a3 / 2 ^ k.toNat), .int .u64 (0), .int .u64 (0)]) w) := by
  have n1 : ¬ 255 < n := by omega
  have n2 : ¬ n < -255 := by omega
  have n3 : ¬ 0 ≤ n := by omega
  go_enter Try.func66, Try.ntmps66
  go_wp2
  refine wp_loop_rounds 5 ?_
  rw [rounds_succ]
  go_wp2
  go_region
  go_wp2
  rw [rounds_succ]
  go_wp2
  rw [rounds_succ]
  go_wp2
  go_returns
  refine ⟨rfl, ?_⟩
  repeat' (first | (with_reducible exact Below.refl _ _) | (with_reducible assumption) | (with_reducible refine up_alloc ?_ _) | (with_reducible refine up ?_ _) | (with_reducible refine up_drew ?_) | (with_reducible refine up_row ?_ ?_ _) | (with_reducible refine up_set ?_ ?_ _) | ((try dsimp only); first | omega | exact le_size | exact le_size1 | exact le_size2 | exact le_size3))
set_option maxHeartbeats 1000000 in
theorem shr_w3 (a0 a1 a2 a3 : Int) (n m k : Int) (h0 : n < 0) (h1 : -255 ≤ n) (hm : -n = m) (hq : m / 64 = 3) (hr : m % 64 = k) (k0 : 0 ≤ k) (k1 : k < 64) (m0 : 0 < m) (m1 : m ≤ 255) (w : World) :
    Calls Try.prog 66 #[.agg #[.int .u64 a0, .int .u64 a1, .int .u64 a2, .int .u64 a3], .int .i64 n] w (Ret (.agg #[.int .u64 (a3 / 2 ^ k.toNat), .int .u64 (0), .int .u64 (0), .int .u64 (0)]) w) := by
  have n1 : ¬ 255 < n := by omega
  have n2 : ¬ n < -255 := by omega
  have n3 : ¬ 0 ≤ n := by omega
  go_enter Try.func66, Try.ntmps66
  go_wp2
  refine wp_loop_rounds 5 ?_
  rw [rounds_succ]
  go_wp2
  rw [rounds_succ]
  go_wp2
  go_returns
  refine ⟨rfl, ?_⟩
  repeat' (first | (with_reducible exact Below.refl _ _) | (with_reducible assumption) | (with_reducible refine up_alloc ?_ _) | (with_reducible refine up ?_ _) | (with_reducible refine up_drew ?_) | (with_reducible refine up_row ?_ ?_ _) | (with_reducible refine up_set ?_ ?_ _) | ((try dsimp only); first | omega | exact le_size | exact le_size1 | exact le_size2 | exact le_size3))
set_option maxHeartbeats 400000 in
theorem shift_big (a0 a1 a2 a3 : Int) (n : Int) (h : 255 < n) (w : World) : Calls Try.prog 66 #[.agg #[.int .u64 a0, .int .u64 a1, .int .u64 a2, .int .u64 a3], .int .i64 n] w (Ret (.agg #[.int .u64 0, .int .u64 0, .int .u64 0, .int .u64 0]) w) := by
  go_enter Try.func66, Try.ntmps66
  go_wp2
  go_returns
  refine ⟨rfl, ?_⟩
  repeat' (first | (with_reducible exact Below.refl _ _) | (with_reducible assumption) | (with_reducible refine up_alloc ?_ _) | (with_reducible refine up ?_ _) | (with_reducible refine up_drew ?_) | (with_reducible refine up_row ?_ ?_ _) | (with_reducible refine up_set ?_ ?_ _) | ((try dsimp only); first | omega | exact le_size | exact le_size1 | exact le_size2 | exact le_size3))
set_option maxHeartbeats 400000 in
theorem shift_small (a0 a1 a2 a3 : Int) (n : Int) (h : n < -255) (w : World) : Calls Try.prog 66 #[.agg #[.int .u64 a0, .int .u64 a1, .int .u64 a2, .int .u64 a3], .int .i64 n] w (Ret (.agg #[.int .u64 0, .int .u64 0, .int .u64 0, .int .u64 0]) w) := by
  have n1 : ¬ 255 < n := by omega
  go_enter Try.func66, Try.ntmps66
  go_wp2
  go_returns
  refine ⟨rfl, ?_⟩
  repeat' (first | (with_reducible exact Below.refl _ _) | (with_reducible assumption) | (with_reducible refine up_alloc ?_ _) | (with_reducible refine up ?_ _) | (with_reducible refine up_drew ?_) | (with_reducible refine up_row ?_ ?_ _) | (with_reducible refine up_set ?_ ?_ _) | ((try dsimp only); first | omega | exact le_size | exact le_size1 | exact le_size2 | exact le_size3))
end Go.Proofs.Ytglbnbdeoenilaa
