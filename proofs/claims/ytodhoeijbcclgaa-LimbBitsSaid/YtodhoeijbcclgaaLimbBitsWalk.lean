/- LimbBits: the walk. -/
import Derived.Test.YtodhoeijbcclgaaPlus
import Derived.Test.YtodhoeijbcclgaaCmp
import Derived.Test.YtodhoeijbcclgaaBitLaws
import Derived.LoopTactic
import Derived.WalkKit
namespace Go.Proofs.Ytodhoeijbcclgaa.LimbBitsWalk
open Go.RowKit
set_option linter.unusedVariables false
theorem bit_step (a k : Nat) : a % 2 ^ (k + 1) = a % 2 ^ k + 2 ^ k * (a / 2 ^ k % 2) := by rw [Nat.pow_succ, Nat.mod_mul]
theorem z4 : num 0 = .agg #[.int .u64 0, .int .u64 0, .int .u64 0, .int .u64 0] := num_one 0 (by omega)
set_option maxRecDepth 20000 in
set_option maxHeartbeats 2000000 in
theorem walk (a : Nat) (ha : a < T256) (w : World) : Calls Try.prog 9 #[num a] w (Ret (.bool true) w) := by
  have q := fun w => eql_num a a ha ha w
  simp only [decide_true] at q
  have L := len_all a ha
  have b1 : blen a ≤ 256 := blen_le.2 (T256_eq ▸ ha)
  have BL := fun w => bit_low (limb a 0) (limb a 1) (limb a 2) (limb a 3) (-1) (by omega) w
  have BH := fun w => bit_high (limb a 0) (limb a 1) (limb a 2) (limb a 3) 256 (by omega) w
  replace L := Lib.hid L
  replace BL := Lib.hid BL
  replace BH := Lib.hid BH
  go_enter Try.func9, Try.ntmps9
  go_wp2_with fail
  go_loopw [4, 5] (fun n i wr => ∃ k : Nat, k ≤ 256 ∧ i = .int .i64 k ∧ n = .int .i64 (blen (a % 2 ^ k) : Nat) ∧ wr.heap[w.heap.size]? = some (.cells #[.int .u64 (limb a 0), .int .u64 (limb a 1), .int .u64 (limb a 2), .int .u64 (limb a 3)] 24) ∧ wr.heap[w.heap.size + 1]? = some (.cells #[.int .u64 (limb (a % 2 ^ k) 0), .int .u64 (limb (a % 2 ^ k) 1), .int .u64 (limb (a % 2 ^ k) 2), .int .u64 (limb (a % 2 ^ k) 3)] 24) ∧ Below w.heap.size w wr)
    (fun _ i _ => 256 - (intOf i).toNat)
  case atStart =>
    have e := z4
    simp only [num, Value.agg.injEq, Array.mk.injEq, List.cons.injEq, Value.int.injEq, true_and, and_true] at e
    refine ⟨0, by omega, rfl, by rw [Nat.pow_zero, Nat.mod_one]; rfl, ?_, ?_, ?_⟩
    · (repeat' (first | (with_reducible exact nw) | (with_reducible exact nw1) | (with_reducible exact nw2) | (with_reducible exact nw3) | (with_reducible exact nw4) | (with_reducible exact nw5) | (with_reducible assumption) | (with_reducible apply ho) | (with_reducible apply hdr) | (with_reducible apply Grow.heap) | (with_reducible apply hrow) | (with_reducible apply hset) | (with_reducible apply hrow_other) | (with_reducible apply hset_other) | (go_simp; done) | omega))
    · rw [Nat.pow_zero, Nat.mod_one, e.1, e.2.1, e.2.2.1, e.2.2.2]
      (repeat' (first | (with_reducible exact nw) | (with_reducible exact nw1) | (with_reducible exact nw2) | (with_reducible exact nw3) | (with_reducible exact nw4) | (with_reducible exact nw5) | (with_reducible assumption) | (with_reducible apply ho) | (with_reducible apply hdr) | (with_reducible apply Grow.heap) | (with_reducible apply hrow) | (with_reducible apply hset) | (with_reducible apply hrow_other) | (with_reducible apply hset_other) | (go_simp; done) | omega))
    · repeat' (first | (with_reducible exact Below.refl _ _) | (with_reducible assumption) | (with_reducible refine up_alloc ?_ _) | (with_reducible refine up ?_ _) | (with_reducible refine up_drew ?_) | (with_reducible refine up_row ?_ ?_ _) | (with_reducible refine up_set ?_ ?_ _) | ((try dsimp only); first | omega | exact le_size | exact le_size1 | exact le_size2 | exact le_size3))
  case round =>
    obtain ⟨k, hk, rfl, rfl, h1, h2, hB⟩ := hrel
    have ⟨r1, z1, l1⟩ := rules h1
    have ⟨r2, z2, l2⟩ := rules h2
    have I1 : LtSize w.heap.size wr := ⟨l1⟩
    have I2 : LtSize (w.heap.size + 1) wr := ⟨l2⟩
    by_cases hk' : k < 256
    · have m1 : a % 2 ^ k < 2 ^ k := Nat.mod_lt _ (Nat.two_pow_pos k)
      have st := bit_step a k
      have p2 : 2 ^ k < T256 := by rw [T256_eq]; exact Nat.pow_lt_pow_right (by omega) (by omega)
      have p3 : 2 ^ k * 2 ≤ T256 := by rw [T256_eq, ← Nat.pow_succ]; exact Nat.pow_le_pow_right (by omega) (by omega)
      have C := bit_all a k ha (by omega)
      by_cases hb : a / 2 ^ k % 2 = 1
      · rw [hb, Nat.mul_one] at st
        have O := shl_all 1 k (by unfold T256; omega) (by omega)
        rw [Nat.one_mul, Nat.mod_eq_of_lt p2, show num 1 = .agg #[.int .u64 1, .int .u64 0, .int .u64 0, .int .u64 0] from num_one 1 (by omega)] at O
        have A := fun w => add_num (a % 2 ^ k) (2 ^ k) (by omega) p2 w
        rw [← st] at A
        have m2 : a % 2 ^ (k + 1) < T256 := by omega
        rw [Nat.mod_eq_of_lt m2, Nat.div_eq_of_lt m2] at A
        have bl : blen (a % 2 ^ (k + 1)) = k + 1 := by
          apply Nat.le_antisymm
          · rw [blen_le]; exact Nat.mod_lt _ (Nat.two_pow_pos _)
          · exact lt_blen.2 (by omega)
        rw [hb] at C
        simp only [Int.ofNat_zero, Int.ofNat_one] at C A
        clear st m1 m2 p2 p3 hb
        replace C := Lib.hid C
        replace O := Lib.hid O
        replace A := Lib.hid A
        go_wp2_with (first | (go_at_call 34; with_reducible refine (grow (C.out _)).mono ?_; rintro _ _ ⟨x1, rfl, rfl⟩))
        refine wp_region_mild (by kernel_rfl) (by kernel_rfl) (by kernel_rfl) ?_
        repeat ((first | (refine wpM_skip rfl ?_) | (apply wpM_plain rfl rfl; (focus (go_simp; first | done | with_reducible rfl))) | (refine wpM_alloc rfl rfl (by first | exact zNum | exact zWide) ?_; intro n hn hf; (try have hne := put_ne hf)) | (apply wpM_row rfl rfl rfl; (focus (go_simp; first | done | with_reducible rfl)); (focus (first | (with_reducible exact cur_same _ _) | (rw [cur_put _ _ _ _ _ hne]; exact cur_same _ _) | (rw [cur_put _ _ _ _ _ hne.symm]; exact cur_same _ _) | (apply cur_old; (repeat' (first | (with_reducible exact nw) | (with_reducible exact nw1) | (with_reducible exact nw2) | (with_reducible exact nw3) | (with_reducible exact nw4) | (with_reducible exact nw5) | (with_reducible assumption) | (with_reducible apply ho) | (with_reducible apply hdr) | (with_reducible apply Grow.heap) | (with_reducible apply hrow) | (with_reducible apply hset) | (with_reducible apply hrow_other) | (with_reducible apply hset_other) | (go_simp; done) | omega))))); (focus kernel_rfl); (focus rfl); (focus (simp [Value.oneCell']; done)); (focus (first | (intro _; omega) | (exact notFresh (by kernel_rfl))))) | (apply wpM_cell rfl rfl rfl; (focus (go_simp; first | done | with_reducible rfl)); (focus (first | (with_reducible exact cur_same _ _) | (rw [cur_put _ _ _ _ _ hne]; exact cur_same _ _) | (rw [cur_put _ _ _ _ _ hne.symm]; exact cur_same _ _) | (apply cur_old; (repeat' (first | (with_reducible exact nw) | (with_reducible exact nw1) | (with_reducible exact nw2) | (with_reducible exact nw3) | (with_reducible exact nw4) | (with_reducible exact nw5) | (with_reducible assumption) | (with_reducible apply ho) | (with_reducible apply hdr) | (with_reducible apply Grow.heap) | (with_reducible apply hrow) | (with_reducible apply hset) | (with_reducible apply hrow_other) | (with_reducible apply hset_other) | (go_simp; done) | omega))))); (focus kernel_rfl); (focus rfl); (focus (first | (simp; done) | (simp; omega))); (focus (first | (intro _; omega) | (exact notFresh (by kernel_rfl))))) | (apply wpM_mild rfl rfl; (focus (intro x; go_simp; (try go_ints); first | done | (with_reducible rfl) | (with_reducible exact O.out _) | (with_reducible exact A.out _))))); (try simp only [Act.put, List.setIfInBounds_toArray, List.set_cons_zero, List.set_cons_succ]))
        refine wpM_nil ?_
        intro w' hc
        obtain ⟨y, rfl⟩ := convS hc (by (repeat' (first | (with_reducible exact nw) | (with_reducible exact nw1) | (with_reducible exact nw2) | (with_reducible exact nw3) | (with_reducible exact nw4) | (with_reducible exact nw5) | (with_reducible assumption) | (with_reducible apply ho) | (with_reducible apply hdr) | (with_reducible apply Grow.heap) | (with_reducible apply hrow) | (with_reducible apply hset) | (with_reducible apply hrow_other) | (with_reducible apply hset_other) | (go_simp; done) | omega))) (fun k hk => by rw [Mu.put_f, if_neg hk]; rfl) (Mu.put_same _ _ _)
        clear hc
        go_wp2_with fail
        go_roundw
        case rel =>
          refine ⟨k + 1, by omega, by go_num, by rw [bl]; go_num, ?_, ?_, ?_⟩
          · (repeat' (first | (with_reducible exact nw) | (with_reducible exact nw1) | (with_reducible exact nw2) | (with_reducible exact nw3) | (with_reducible exact nw4) | (with_reducible exact nw5) | (with_reducible assumption) | (with_reducible apply ho) | (with_reducible apply hdr) | (with_reducible apply Grow.heap) | (with_reducible apply hrow) | (with_reducible apply hset) | (with_reducible apply hrow_other) | (with_reducible apply hset_other) | (go_simp; done) | omega))
          · (repeat' (first | (with_reducible exact nw) | (with_reducible exact nw1) | (with_reducible exact nw2) | (with_reducible exact nw3) | (with_reducible exact nw4) | (with_reducible exact nw5) | (with_reducible assumption) | (with_reducible apply ho) | (with_reducible apply hdr) | (with_reducible apply Grow.heap) | (with_reducible apply hrow) | (with_reducible apply hset) | (with_reducible apply hrow_other) | (with_reducible apply hset_other) | (go_simp; done) | omega))
          · repeat' (first | (with_reducible exact Below.refl _ _) | (with_reducible assumption) | (with_reducible refine up_alloc ?_ _) | (with_reducible refine up ?_ _) | (with_reducible refine up_drew ?_) | (with_reducible refine up_row ?_ ?_ _) | (with_reducible refine up_set ?_ ?_ _) | ((try dsimp only); first | omega | exact le_size | exact le_size1 | exact le_size2 | exact le_size3))
        case measure => simp [intOf]; omega
      · have hb0 : a / 2 ^ k % 2 = 0 := by omega
        rw [hb0, Nat.mul_zero] at st
        replace st : a % 2 ^ (k + 1) = a % 2 ^ k := st
        rw [hb0] at C
        simp only [Int.ofNat_zero] at C
        rw [← st] at h2 ⊢
        clear st m1 p2 p3 hb hb0
        replace C := Lib.hid C
        go_wp2_with (first | (go_at_call 34; with_reducible refine (grow (C.out _)).mono ?_; rintro _ _ ⟨x1, rfl, rfl⟩))
        go_roundw
        case rel =>
          refine ⟨k + 1, by omega, by go_num, rfl, ?_, ?_, ?_⟩
          · (repeat' (first | (with_reducible exact nw) | (with_reducible exact nw1) | (with_reducible exact nw2) | (with_reducible exact nw3) | (with_reducible exact nw4) | (with_reducible exact nw5) | (with_reducible assumption) | (with_reducible apply ho) | (with_reducible apply hdr) | (with_reducible apply Grow.heap) | (with_reducible apply hrow) | (with_reducible apply hset) | (with_reducible apply hrow_other) | (with_reducible apply hset_other) | (go_simp; done) | omega))
          · (repeat' (first | (with_reducible exact nw) | (with_reducible exact nw1) | (with_reducible exact nw2) | (with_reducible exact nw3) | (with_reducible exact nw4) | (with_reducible exact nw5) | (with_reducible assumption) | (with_reducible apply ho) | (with_reducible apply hdr) | (with_reducible apply Grow.heap) | (with_reducible apply hrow) | (with_reducible apply hset) | (with_reducible apply hrow_other) | (with_reducible apply hset_other) | (go_simp; done) | omega))
          · repeat' (first | (with_reducible exact Below.refl _ _) | (with_reducible assumption) | (with_reducible refine up_alloc ?_ _) | (with_reducible refine up ?_ _) | (with_reducible refine up_drew ?_) | (with_reducible refine up_row ?_ ?_ _) | (with_reducible refine up_set ?_ ?_ _) | ((try dsimp only); first | omega | exact le_size | exact le_size1 | exact le_size2 | exact le_size3))
        case measure => simp [intOf]; omega
    · obtain rfl : k = 256 := by omega
      rw [Nat.mod_eq_of_lt (show a < 2 ^ 256 from T256_eq ▸ ha)] at r2 h2 ⊢
      go_wp2_with (first | (go_at_call 36; with_reducible refine (grow (L.out _)).mono ?_; rintro _ _ ⟨x1, rfl, rfl⟩) | (go_at_call 34; with_reducible refine (grow (BL.out _)).mono ?_; rintro _ _ ⟨x2, rfl, rfl⟩) | (go_at_call 34; with_reducible refine (grow (BH.out _)).mono ?_; rintro _ _ ⟨x3, rfl, rfl⟩))
      go_returns
      refine ⟨rfl, ?_⟩
      repeat' (first | (with_reducible exact Below.refl _ _) | (with_reducible assumption) | (with_reducible refine up_alloc ?_ _) | (with_reducible refine up ?_ _) | (with_reducible refine up_drew ?_) | (with_reducible refine up_row ?_ ?_ _) | (with_reducible refine up_set ?_ ?_ _) | ((try dsimp only); first | omega | exact le_size | exact le_size1 | exact le_size2 | exact le_size3))
end Go.Proofs.Ytodhoeijbcclgaa.LimbBitsWalk
