/- LimbThrice: the walk. -/
import Derived.Test.YtodhoeijbcclgaaPlus
namespace Go.Proofs.Ytodhoeijbcclgaa.LimbThriceWalk
open Go.RowKit
set_option linter.unusedVariables false
set_option maxHeartbeats 1000000 in
theorem walk (a : Nat) (ha : a < T256) (b : Nat) (hb : b < T256) (c : Nat) (hc : c < T256) (w : World) :
    Calls Try.prog 7 #[num a, num b, num c] w (Ret (.bool true) w) := by
  have L := limbs_all
  have M1 := mul_all a b ha hb
  have M2 := mul_all b c hb hc
  have H1 := high_all (a * b)
  have H2 := high_all (b * c)
  have L1 := low_all (a * b)
  have L2 := low_all (b * c)
  have M3 := mul_all (a * b % T256) c (mod_lt_T _) hc
  have M4 := mul_all a (b * c % T256) ha (mod_lt_T _)
  have dx : a * b / T256 < T256 := div_lt_T (Nat.mul_lt_mul'' ha hb)
  have dy : b * c / T256 < T256 := div_lt_T (Nat.mul_lt_mul'' hb hc)
  have q1 := eql_num (a * b / T256) 0 dx T256_pos
  have q2 := eql_num (b * c / T256) 0 dy T256_pos
  have z : num 0 = .agg #[.int .u64 0, .int .u64 0, .int .u64 0, .int .u64 0] := num_one 0 (by omega)
  rw [z] at q1 q2
  by_cases hx : a * b / T256 = 0
  · by_cases hy : b * c / T256 = 0
    · have e : a * b % T256 * c = a * (b * c % T256) := by
        rw [Nat.mod_eq_of_lt (Nat.lt_of_div_eq_zero T256_pos hx), Nat.mod_eq_of_lt (Nat.lt_of_div_eq_zero T256_pos hy), Nat.mul_assoc]
      have q3 := eql_wide (a * (b * c % T256)) (a * (b * c % T256)) (Nat.mul_lt_mul'' ha (mod_lt_T _)) (Nat.mul_lt_mul'' ha (mod_lt_T _))
      rw [e] at M3
      simp only [hx, hy, decide_true] at q1 q2 q3 H1 H2
      rw [z] at H1 H2 q1 q2
      replace L := Lib.hid L
      replace M1 := Lib.hid M1
      replace M2 := Lib.hid M2
      replace H1 := Lib.hid H1
      replace H2 := Lib.hid H2
      replace L1 := Lib.hid L1
      replace L2 := Lib.hid L2
      replace M3 := Lib.hid M3
      replace M4 := Lib.hid M4
      go_enter Try.func7, Try.ntmps7
      go_wp2_with (first | (go_at_call 30; with_reducible refine (grow (L.out _)).mono ?_; rintro _ _ ⟨x1, rfl, rfl⟩))
      refine wp_region_mild (by kernel_rfl) (by kernel_rfl) (by kernel_rfl) ?_
      repeat ((first | (refine wpM_skip rfl ?_) | (apply wpM_plain rfl rfl; (focus (go_simp; first | done | with_reducible rfl))) | (refine wpM_alloc rfl rfl (by first | exact zNum | exact zWide) ?_; intro n hn hf; (try have hne := put_ne hf)) | (apply wpM_row rfl rfl rfl; (focus (go_simp; first | done | with_reducible rfl)); (focus (first | (with_reducible exact cur_same _ _) | (rw [cur_put _ _ _ _ _ hne]; exact cur_same _ _) | (rw [cur_put _ _ _ _ _ hne.symm]; exact cur_same _ _) | (apply cur_old; (repeat' (first | (with_reducible exact nw) | (with_reducible exact nw1) | (with_reducible exact nw2) | (with_reducible exact nw3) | (with_reducible exact nw4) | (with_reducible exact nw5) | (with_reducible assumption) | (with_reducible apply ho) | (with_reducible apply hdr) | (with_reducible apply Grow.heap) | (with_reducible apply hrow) | (with_reducible apply hset) | (with_reducible apply hrow_other) | (with_reducible apply hset_other) | (go_simp; done) | omega))))); (focus kernel_rfl); (focus rfl); (focus (simp [Value.oneCell']; done)); (focus (first | (intro _; omega) | (exact notFresh (by kernel_rfl))))) | (apply wpM_cell rfl rfl rfl; (focus (go_simp; first | done | with_reducible rfl)); (focus (first | (with_reducible exact cur_same _ _) | (rw [cur_put _ _ _ _ _ hne]; exact cur_same _ _) | (rw [cur_put _ _ _ _ _ hne.symm]; exact cur_same _ _) | (apply cur_old; (repeat' (first | (with_reducible exact nw) | (with_reducible exact nw1) | (with_reducible exact nw2) | (with_reducible exact nw3) | (with_reducible exact nw4) | (with_reducible exact nw5) | (with_reducible assumption) | (with_reducible apply ho) | (with_reducible apply hdr) | (with_reducible apply Grow.heap) | (with_reducible apply hrow) | (with_reducible apply hset) | (with_reducible apply hrow_other) | (with_reducible apply hset_other) | (go_simp; done) | omega))))); (focus kernel_rfl); (focus rfl); (focus (first | (simp; done) | (simp; omega))); (focus (first | (intro _; omega) | (exact notFresh (by kernel_rfl))))) | (apply wpM_mild' rfl rfl; (focus (intro k hk; repeat (first | rfl | (rw [Mu.put_f, if_neg (by omega)])))); (focus (intro x; go_simp; (try go_ints); first | done | (with_reducible rfl) | (with_reducible exact M1.out _) | (with_reducible exact M2.out _)))) | (apply wpM_mild rfl rfl; (focus (intro x; go_simp; (try go_ints); first | done | (with_reducible rfl) | (with_reducible exact M1.out _) | (with_reducible exact M2.out _))))); (try simp only [Act.put, List.setIfInBounds_toArray, List.set_cons_zero, List.set_cons_succ]))
      refine wpM_nil ?_
      intro w' hc
      rename_i n1 hn1 hf1
      have f1 := now_is (n := n1) hc (by first | exact Mu.put_same _ _ _ | (rw [Mu.put_f, if_neg (by omega)]; exact Mu.put_same _ _ _))
      have f2 := now_is (n := n) hc (by first | exact Mu.put_same _ _ _ | (rw [Mu.put_f, if_neg (by omega)]; exact Mu.put_same _ _ _))
      obtain ⟨y, rfl⟩ := conv_many hc (fun k hk => by repeat (first | rfl | (rw [Mu.put_f, if_neg (by omega)])))
      have ⟨r1, z1, l1⟩ := rules f1
      have ⟨r2, z2, l2⟩ := rules f2
      have I1 : LtSize n1 y.to := ⟨l1⟩
      have I2 : LtSize n y.to := ⟨l2⟩
      clear hf hf1
      clear hc
      go_wp2_with fail
      refine wp_region_mild (by kernel_rfl) (by kernel_rfl) (by kernel_rfl) ?_
      repeat ((first | (refine wpM_skip rfl ?_) | (apply wpM_plain rfl rfl; (focus (go_simp; first | done | with_reducible rfl))) | (apply wpM_mild rfl rfl; (focus (intro x; go_simp; (try go_ints); first | done | (with_reducible rfl) | (with_reducible exact H1.out _) | (with_reducible exact H2.out _))))); (try simp only [Act.put, List.setIfInBounds_toArray, List.set_cons_zero, List.set_cons_succ]))
      refine wpM_nil ?_
      intro w' hc
      obtain ⟨y, rfl⟩ := conv0 hc
      clear hc
      go_wp2_with fail
      refine wp_region_mild (by kernel_rfl) (by kernel_rfl) (by kernel_rfl) ?_
      repeat ((first | (refine wpM_skip rfl ?_) | (apply wpM_plain rfl rfl; (focus (go_simp; first | done | with_reducible rfl))) | (apply wpM_mild rfl rfl; (focus (intro x; go_simp; (try go_ints); first | done | (with_reducible rfl) | (with_reducible exact L1.out _) | (with_reducible exact L2.out _) | (with_reducible exact M3.out _) | (with_reducible exact M4.out _))))); (try simp only [Act.put, List.setIfInBounds_toArray, List.set_cons_zero, List.set_cons_succ]))
      refine wpM_nil ?_
      intro w' hc
      obtain ⟨y, rfl⟩ := conv0 hc
      clear hc
      go_wp2_with fail
      go_returns
      refine ⟨rfl, ?_⟩
      repeat' (first | (with_reducible exact Below.refl _ _) | (with_reducible refine up_alloc ?_ _) | (with_reducible refine up ?_ _) | (with_reducible refine up_drew ?_) | (with_reducible refine up_row ?_ ?_ _) | (with_reducible refine up_set ?_ ?_ _) | ((try dsimp only); first | omega | exact le_size | exact le_size1 | exact le_size2 | exact le_size3))
    · rw [decide_eq_false hy] at q2
      simp only [hx, decide_true] at q1 H1
      rw [z] at H1 q1
      replace L := Lib.hid L
      replace M1 := Lib.hid M1
      replace M2 := Lib.hid M2
      replace H1 := Lib.hid H1
      replace H2 := Lib.hid H2
      replace L1 := Lib.hid L1
      replace L2 := Lib.hid L2
      replace M3 := Lib.hid M3
      replace M4 := Lib.hid M4
      go_enter Try.func7, Try.ntmps7
      go_wp2_with (first | (go_at_call 30; with_reducible refine (grow (L.out _)).mono ?_; rintro _ _ ⟨x1, rfl, rfl⟩))
      refine wp_region_mild (by kernel_rfl) (by kernel_rfl) (by kernel_rfl) ?_
      repeat ((first | (refine wpM_skip rfl ?_) | (apply wpM_plain rfl rfl; (focus (go_simp; first | done | with_reducible rfl))) | (refine wpM_alloc rfl rfl (by first | exact zNum | exact zWide) ?_; intro n hn hf; (try have hne := put_ne hf)) | (apply wpM_row rfl rfl rfl; (focus (go_simp; first | done | with_reducible rfl)); (focus (first | (with_reducible exact cur_same _ _) | (rw [cur_put _ _ _ _ _ hne]; exact cur_same _ _) | (rw [cur_put _ _ _ _ _ hne.symm]; exact cur_same _ _) | (apply cur_old; (repeat' (first | (with_reducible exact nw) | (with_reducible exact nw1) | (with_reducible exact nw2) | (with_reducible exact nw3) | (with_reducible exact nw4) | (with_reducible exact nw5) | (with_reducible assumption) | (with_reducible apply ho) | (with_reducible apply hdr) | (with_reducible apply Grow.heap) | (with_reducible apply hrow) | (with_reducible apply hset) | (with_reducible apply hrow_other) | (with_reducible apply hset_other) | (go_simp; done) | omega))))); (focus kernel_rfl); (focus rfl); (focus (simp [Value.oneCell']; done)); (focus (first | (intro _; omega) | (exact notFresh (by kernel_rfl))))) | (apply wpM_cell rfl rfl rfl; (focus (go_simp; first | done | with_reducible rfl)); (focus (first | (with_reducible exact cur_same _ _) | (rw [cur_put _ _ _ _ _ hne]; exact cur_same _ _) | (rw [cur_put _ _ _ _ _ hne.symm]; exact cur_same _ _) | (apply cur_old; (repeat' (first | (with_reducible exact nw) | (with_reducible exact nw1) | (with_reducible exact nw2) | (with_reducible exact nw3) | (with_reducible exact nw4) | (with_reducible exact nw5) | (with_reducible assumption) | (with_reducible apply ho) | (with_reducible apply hdr) | (with_reducible apply Grow.heap) | (with_reducible apply hrow) | (with_reducible apply hset) | (with_reducible apply hrow_other) | (with_reducible apply hset_other) | (go_simp; done) | omega))))); (focus kernel_rfl); (focus rfl); (focus (first | (simp; done) | (simp; omega))); (focus (first | (intro _; omega) | (exact notFresh (by kernel_rfl))))) | (apply wpM_mild' rfl rfl; (focus (intro k hk; repeat (first | rfl | (rw [Mu.put_f, if_neg (by omega)])))); (focus (intro x; go_simp; (try go_ints); first | done | (with_reducible rfl) | (with_reducible exact M1.out _) | (with_reducible exact M2.out _)))) | (apply wpM_mild rfl rfl; (focus (intro x; go_simp; (try go_ints); first | done | (with_reducible rfl) | (with_reducible exact M1.out _) | (with_reducible exact M2.out _))))); (try simp only [Act.put, List.setIfInBounds_toArray, List.set_cons_zero, List.set_cons_succ]))
      refine wpM_nil ?_
      intro w' hc
      rename_i n1 hn1 hf1
      have f1 := now_is (n := n1) hc (by first | exact Mu.put_same _ _ _ | (rw [Mu.put_f, if_neg (by omega)]; exact Mu.put_same _ _ _))
      have f2 := now_is (n := n) hc (by first | exact Mu.put_same _ _ _ | (rw [Mu.put_f, if_neg (by omega)]; exact Mu.put_same _ _ _))
      obtain ⟨y, rfl⟩ := conv_many hc (fun k hk => by repeat (first | rfl | (rw [Mu.put_f, if_neg (by omega)])))
      have ⟨r1, z1, l1⟩ := rules f1
      have ⟨r2, z2, l2⟩ := rules f2
      have I1 : LtSize n1 y.to := ⟨l1⟩
      have I2 : LtSize n y.to := ⟨l2⟩
      clear hf hf1
      clear hc
      go_wp2_with fail
      refine wp_region_mild (by kernel_rfl) (by kernel_rfl) (by kernel_rfl) ?_
      repeat ((first | (refine wpM_skip rfl ?_) | (apply wpM_plain rfl rfl; (focus (go_simp; first | done | with_reducible rfl))) | (apply wpM_mild rfl rfl; (focus (intro x; go_simp; (try go_ints); first | done | (with_reducible rfl) | (with_reducible exact H1.out _) | (with_reducible exact H2.out _))))); (try simp only [Act.put, List.setIfInBounds_toArray, List.set_cons_zero, List.set_cons_succ]))
      refine wpM_nil ?_
      intro w' hc
      obtain ⟨y, rfl⟩ := conv0 hc
      clear hc
      go_wp2_with fail
      go_returns
      refine ⟨rfl, ?_⟩
      repeat' (first | (with_reducible exact Below.refl _ _) | (with_reducible refine up_alloc ?_ _) | (with_reducible refine up ?_ _) | (with_reducible refine up_drew ?_) | (with_reducible refine up_row ?_ ?_ _) | (with_reducible refine up_set ?_ ?_ _) | ((try dsimp only); first | omega | exact le_size | exact le_size1 | exact le_size2 | exact le_size3))
  · rw [decide_eq_false hx] at q1
    replace L := Lib.hid L
    replace M1 := Lib.hid M1
    replace M2 := Lib.hid M2
    replace H1 := Lib.hid H1
    replace H2 := Lib.hid H2
    replace L1 := Lib.hid L1
    replace L2 := Lib.hid L2
    replace M3 := Lib.hid M3
    replace M4 := Lib.hid M4
    go_enter Try.func7, Try.ntmps7
    go_wp2_with (first | (go_at_call 30; with_reducible refine (grow (L.out _)).mono ?_; rintro _ _ ⟨x1, rfl, rfl⟩))
    refine wp_region_mild (by kernel_rfl) (by kernel_rfl) (by kernel_rfl) ?_
    repeat ((first | (refine wpM_skip rfl ?_) | (apply wpM_plain rfl rfl; (focus (go_simp; first | done | with_reducible rfl))) | (refine wpM_alloc rfl rfl (by first | exact zNum | exact zWide) ?_; intro n hn hf; (try have hne := put_ne hf)) | (apply wpM_row rfl rfl rfl; (focus (go_simp; first | done | with_reducible rfl)); (focus (first | (with_reducible exact cur_same _ _) | (rw [cur_put _ _ _ _ _ hne]; exact cur_same _ _) | (rw [cur_put _ _ _ _ _ hne.symm]; exact cur_same _ _) | (apply cur_old; (repeat' (first | (with_reducible exact nw) | (with_reducible exact nw1) | (with_reducible exact nw2) | (with_reducible exact nw3) | (with_reducible exact nw4) | (with_reducible exact nw5) | (with_reducible assumption) | (with_reducible apply ho) | (with_reducible apply hdr) | (with_reducible apply Grow.heap) | (with_reducible apply hrow) | (with_reducible apply hset) | (with_reducible apply hrow_other) | (with_reducible apply hset_other) | (go_simp; done) | omega))))); (focus kernel_rfl); (focus rfl); (focus (simp [Value.oneCell']; done)); (focus (first | (intro _; omega) | (exact notFresh (by kernel_rfl))))) | (apply wpM_cell rfl rfl rfl; (focus (go_simp; first | done | with_reducible rfl)); (focus (first | (with_reducible exact cur_same _ _) | (rw [cur_put _ _ _ _ _ hne]; exact cur_same _ _) | (rw [cur_put _ _ _ _ _ hne.symm]; exact cur_same _ _) | (apply cur_old; (repeat' (first | (with_reducible exact nw) | (with_reducible exact nw1) | (with_reducible exact nw2) | (with_reducible exact nw3) | (with_reducible exact nw4) | (with_reducible exact nw5) | (with_reducible assumption) | (with_reducible apply ho) | (with_reducible apply hdr) | (with_reducible apply Grow.heap) | (with_reducible apply hrow) | (with_reducible apply hset) | (with_reducible apply hrow_other) | (with_reducible apply hset_other) | (go_simp; done) | omega))))); (focus kernel_rfl); (focus rfl); (focus (first | (simp; done) | (simp; omega))); (focus (first | (intro _; omega) | (exact notFresh (by kernel_rfl))))) | (apply wpM_mild' rfl rfl; (focus (intro k hk; repeat (first | rfl | (rw [Mu.put_f, if_neg (by omega)])))); (focus (intro x; go_simp; (try go_ints); first | done | (with_reducible rfl) | (with_reducible exact M1.out _) | (with_reducible exact M2.out _)))) | (apply wpM_mild rfl rfl; (focus (intro x; go_simp; (try go_ints); first | done | (with_reducible rfl) | (with_reducible exact M1.out _) | (with_reducible exact M2.out _))))); (try simp only [Act.put, List.setIfInBounds_toArray, List.set_cons_zero, List.set_cons_succ]))
    refine wpM_nil ?_
    intro w' hc
    rename_i n1 hn1 hf1
    have f1 := now_is (n := n1) hc (by first | exact Mu.put_same _ _ _ | (rw [Mu.put_f, if_neg (by omega)]; exact Mu.put_same _ _ _))
    have f2 := now_is (n := n) hc (by first | exact Mu.put_same _ _ _ | (rw [Mu.put_f, if_neg (by omega)]; exact Mu.put_same _ _ _))
    obtain ⟨y, rfl⟩ := conv_many hc (fun k hk => by repeat (first | rfl | (rw [Mu.put_f, if_neg (by omega)])))
    have ⟨r1, z1, l1⟩ := rules f1
    have ⟨r2, z2, l2⟩ := rules f2
    have I1 : LtSize n1 y.to := ⟨l1⟩
    have I2 : LtSize n y.to := ⟨l2⟩
    clear hf hf1
    clear hc
    go_wp2_with fail
    refine wp_region_mild (by kernel_rfl) (by kernel_rfl) (by kernel_rfl) ?_
    repeat ((first | (refine wpM_skip rfl ?_) | (apply wpM_plain rfl rfl; (focus (go_simp; first | done | with_reducible rfl))) | (apply wpM_mild rfl rfl; (focus (intro x; go_simp; (try go_ints); first | done | (with_reducible rfl) | (with_reducible exact H1.out _) | (with_reducible exact H2.out _))))); (try simp only [Act.put, List.setIfInBounds_toArray, List.set_cons_zero, List.set_cons_succ]))
    refine wpM_nil ?_
    intro w' hc
    obtain ⟨y, rfl⟩ := conv0 hc
    clear hc
    go_wp2_with fail
    go_returns
    refine ⟨rfl, ?_⟩
    repeat' (first | (with_reducible exact Below.refl _ _) | (with_reducible refine up_alloc ?_ _) | (with_reducible refine up ?_ _) | (with_reducible refine up_drew ?_) | (with_reducible refine up_row ?_ ?_ _) | (with_reducible refine up_set ?_ ?_ _) | ((try dsimp only); first | omega | exact le_size | exact le_size1 | exact le_size2 | exact le_size3))
end Go.Proofs.Ytodhoeijbcclgaa.LimbThriceWalk
