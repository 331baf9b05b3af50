/- The walks of limb.Low, High, Wide, Cmp, Pick, and of plus, wide, limbs. -/
import Derived.Test.YtglbnbdeoenilaaAddSub
import Derived.Test.YtglbnbdeoenilaaEqNum
import Derived.Test.YtglbnbdeoenilaaMild
namespace Go.Proofs.Ytglbnbdeoenilaa
open Go.RowKit
set_option maxRecDepth 100000
set_option linter.unusedVariables false
set_option maxHeartbeats 1000000 in
theorem low_all (a : Nat) (w : World) : Calls Try.prog 61 #[wide a] w (Ret (num (a % T256)) w) := by
  have e : num (a % T256) = .agg #[.int .u64 (limb a 0), .int .u64 (limb a 1), .int .u64 (limb a 2), .int .u64 (limb a 3)] := by
    have h := fun i hi => limb_lo a 0 i hi
    simp only [Nat.mul_zero, Nat.add_zero] at h
    simp only [num, h 0 (by omega), h 1 (by omega), h 2 (by omega), h 3 (by omega)]
  rw [e]
  clear e
  go_enter Try.func61, Try.ntmps61
  go_wp2
  go_returns
  refine ⟨rfl, ?_⟩
  repeat' (first | (with_reducible exact Below.refl _ _) | (with_reducible assumption) | (with_reducible refine up_alloc ?_ _) | (with_reducible refine up ?_ _) | (with_reducible refine up_drew ?_) | (with_reducible refine up_row ?_ ?_ _) | (with_reducible refine up_set ?_ ?_ _) | ((try dsimp only); first | omega | exact le_size | exact le_size1 | exact le_size2 | exact le_size3))
set_option maxHeartbeats 1000000 in
theorem wide_words (a0 a1 a2 a3 b0 b1 b2 b3 : Int) (w : World) :
    Calls Try.prog 58 #[.agg #[.int .u64 a0, .int .u64 a1, .int .u64 a2, .int .u64 a3], .agg #[.int .u64 b0, .int .u64 b1, .int .u64 b2, .int .u64 b3]] w
      (Ret (.agg #[.int .u64 a0, .int .u64 a1, .int .u64 a2, .int .u64 a3, .int .u64 b0, .int .u64 b1, .int .u64 b2, .int .u64 b3]) w) := by
  have k1 := run_copy_row (P := Try.prog) (((((w.alloc (.cells #[.int .u64 a0, .int .u64 a1, .int .u64 a2, .int .u64 a3] 33)).alloc (.cells #[.int .u64 b0, .int .u64 b1, .int .u64 b2, .int .u64 b3] 33)).alloc (.cells #[.int .u64 0, .int .u64 0, .int .u64 0, .int .u64 0, .int .u64 0, .int .u64 0, .int .u64 0, .int .u64 0] 89)).alloc (.cells #[.int .u64 0, .int .u64 0, .int .u64 0, .int .u64 0, .int .u64 0, .int .u64 0, .int .u64 0, .int .u64 0] 89)).drew)
    107 107 3 31 (w.heap.size + 1 + 1 + 1) 0 4 8 ⟨w.heap.size, 0, none⟩ 4 4 _ 89 [.int .u64 a0, .int .u64 a1, .int .u64 a2, .int .u64 a3]
    (by kernel_rfl) (by kernel_rfl) (hdr nw3) (by rfl) (src_of (hdr (ho (ho (ho nw)))) rfl) (by simp) (by simp [Value.oneCell'])
  have k2 := run_copy_row (P := Try.prog) (((((w.alloc (.cells #[.int .u64 a0, .int .u64 a1, .int .u64 a2, .int .u64 a3] 33)).alloc (.cells #[.int .u64 b0, .int .u64 b1, .int .u64 b2, .int .u64 b3] 33)).alloc (.cells #[.int .u64 0, .int .u64 0, .int .u64 0, .int .u64 0, .int .u64 0, .int .u64 0, .int .u64 0, .int .u64 0] 89)).alloc (.cells #[.int .u64 a0, .int .u64 a1, .int .u64 a2, .int .u64 a3, .int .u64 0, .int .u64 0, .int .u64 0, .int .u64 0] 89)).drew.drew)
    107 107 3 31 (w.heap.size + 1 + 1 + 1) 4 4 4 ⟨w.heap.size + 1, 0, none⟩ 4 4 _ 89 [.int .u64 b0, .int .u64 b1, .int .u64 b2, .int .u64 b3]
    (by kernel_rfl) (by kernel_rfl) (hdr (hdr nw3)) (by rfl) (src_of (hdr (hdr (ho (ho nw1)))) rfl) (by simp) (by simp [Value.oneCell'])
  have e (v : World) (n : Nat) (c : Array Value) : v.drew.setRow n c = (v.setRow n c).drew := rfl
  rw [e, setRow_new _ _ _ _ _ (by simp)] at k1
  rw [e, e, setRow_new _ _ _ _ _ (by simp)] at k2
  simp only [goInt, List.length_cons, List.length_nil, List.take_zero, List.nil_append, List.drop_succ_cons, List.drop_zero, List.cons_append, List.take_succ_cons, List.drop_nil, List.append_nil, Nat.zero_add, Nat.reduceAdd] at k1 k2
  go_enter Try.func58, Try.ntmps58
  go_wp2
  go_region
  go_wp2
  go_region
  go_wp2
  go_returns
  refine ⟨rfl, ?_⟩
  repeat' (first | (with_reducible exact Below.refl _ _) | (with_reducible assumption) | (with_reducible refine up_alloc ?_ _) | (with_reducible refine up ?_ _) | (with_reducible refine up_drew ?_) | (with_reducible refine up_row ?_ ?_ _) | (with_reducible refine up_set ?_ ?_ _) | ((try dsimp only); first | omega | exact le_size | exact le_size1 | exact le_size2 | exact le_size3))
theorem wide_all (a b : Nat) (ha : a < T256) (w : World) : Calls Try.prog 58 #[num a, num b] w (Ret (wide (a + T256 * b)) w) := by
  have h := limb_two a b ha
  have k := wide_words (limb a 0) (limb a 1) (limb a 2) (limb a 3) (limb b 0) (limb b 1) (limb b 2) (limb b 3) w
  simp only [wide, h.1, h.2.1, h.2.2.1, h.2.2.2.1, h.2.2.2.2.1, h.2.2.2.2.2.1, h.2.2.2.2.2.2.1, h.2.2.2.2.2.2.2]
  exact k
end Go.Proofs.Ytglbnbdeoenilaa
