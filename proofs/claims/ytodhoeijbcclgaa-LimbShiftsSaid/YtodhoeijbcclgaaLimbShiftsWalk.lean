/- LimbShifts: the walk. -/
import Derived.Test.YtodhoeijbcclgaaPlus
import Derived.Test.YtodhoeijbcclgaaCmp
import Derived.Test.YtodhoeijbcclgaaBitLaws
namespace Go.Proofs.Ytodhoeijbcclgaa.LimbShiftsWalk
open Go.RowKit
set_option linter.unusedVariables false
theorem shr_any (a n : Nat) (ha : a < T256) (hn : n ≤ 255) (w : World) : Calls Try.prog 35 #[num a, .int .i64 (-(n : Int))] w (Ret (num (a / 2 ^ n)) w) := by
  by_cases h : n = 0
  · subst h
    have := shl_all a 0 ha (by omega) w
    rw [Nat.pow_zero, Nat.mul_one, Nat.mod_eq_of_lt ha] at this
    rw [Nat.pow_zero, Nat.div_one]
    simpa using this
  · exact shr_all a n ha (by omega) hn w
set_option maxHeartbeats 2000000 in
theorem core (a n u p m d t : Nat) (b1 b2 : Nat) (c1 c2 : Int) (e : Bool) (w : World) (hn0 : (0 : Int) ≤ n) (hn1 : (n : Int) ≤ 255)
    (U : ∀ w, Calls Try.prog 35 #[num a, .int .i64 n] w (Ret (num u) w))
    (D : ∀ w, Calls Try.prog 35 #[num a, .int .i64 (-(n : Int))] w (Ret (num d) w))
    (O : ∀ w, Calls Try.prog 35 #[.agg #[.int .u64 1, .int .u64 0, .int .u64 0, .int .u64 0], .int .i64 n] w (Ret (num p) w))
    (M : ∀ w, Calls Try.prog 31 #[num a, num p] w (Ret (wide m) w))
    (L : ∀ w, Calls Try.prog 27 #[wide m] w (Ret (num u) w))
    (B : ∀ w, Calls Try.prog 35 #[num u, .int .i64 (-(n : Int))] w (Ret (num t) w))
    (L1 : ∀ w, Calls Try.prog 36 #[num a] w (Ret (.int .i64 b1) w))
    (L2 : ∀ w, Calls Try.prog 36 #[num d] w (Ret (.int .i64 b2) w))
    (C1 : ∀ w, Calls Try.prog 29 #[num d, num a] w (Ret (.int .i64 c1) w))
    (x : Nat) (S3 : ∀ w, Calls Try.prog 35 #[num d, .int .i64 n] w (Ret (num x) w))
    (C2 : ∀ w, Calls Try.prog 29 #[num x, num a] w (Ret (.int .i64 c2) w))
    (q1 : ∀ w : World, (Op.equalIn 10000 24 (num u) (num u)).run Try.prog w = .ok true w)
    (q2 : ∀ w : World, (Op.equalIn 10000 24 (num t) (num a)).run Try.prog w = .ok e w)
    (hb0 : (0 : Int) ≤ b1) (hb1 : (b1 : Int) ≤ 256) (hb2 : (b2 : Int) ≤ 256) (hb3 : (0 : Int) ≤ b2)
    (he : decide ((b1 : Int) + n ≤ 256) = e) (h1 : decide (c1 ≤ 0) = true) (h2 : decide (c2 ≤ 0) = true) (hm : (b2 : Int) = max 0 ((b1 : Int) - n)) :
    Calls Try.prog 10 #[num a, .int .i64 n] w (Ret (.bool true) w) := by
  have n1 : ¬ (n : Int) < 0 := by omega
  have n2 : ¬ 255 < (n : Int) := by omega
  replace U := Lib.hid U
  replace D := Lib.hid D
  replace O := Lib.hid O
  replace M := Lib.hid M
  replace L := Lib.hid L
  replace B := Lib.hid B
  replace L1 := Lib.hid L1
  replace L2 := Lib.hid L2
  replace C1 := Lib.hid C1
  replace S3 := Lib.hid S3
  replace C2 := Lib.hid C2
  go_enter Try.func10, Try.ntmps10
  go_wp2_with fail
  refine wp_region_mild (by kernel_rfl) (by kernel_rfl) (by kernel_rfl) ?_
  repeat ((first | (refine wpM_skip rfl ?_) | (apply wpM_plain rfl rfl; (focus (go_simp; first | done | with_reducible rfl))) | (refine wpM_alloc rfl rfl (by first | exact zNum | exact zWide) ?_; intro n hn hf; (try have hne := put_ne hf)) | (apply wpM_row rfl rfl rfl; (focus (go_simp; first | done | with_reducible rfl)); (focus (first | (with_reducible exact cur_same _ _) | (rw [cur_put _ _ _ _ _ hne]; exact cur_same _ _) | (rw [cur_put _ _ _ _ _ hne.symm]; exact cur_same _ _) | (apply cur_old; (repeat' (first | (with_reducible exact nw) | (with_reducible exact nw1) | (with_reducible exact nw2) | (with_reducible exact nw3) | (with_reducible exact nw4) | (with_reducible exact nw5) | (with_reducible assumption) | (with_reducible apply ho) | (with_reducible apply hdr) | (with_reducible apply Grow.heap) | (with_reducible apply hrow) | (with_reducible apply hset) | (with_reducible apply hrow_other) | (with_reducible apply hset_other) | (go_simp; done) | omega))))); (focus kernel_rfl); (focus rfl); (focus (simp [Value.oneCell']; done)); (focus (first | (intro _; omega) | (exact notFresh (by kernel_rfl))))) | (apply wpM_cell rfl rfl rfl; (focus (go_simp; first | done | with_reducible rfl)); (focus (first | (with_reducible exact cur_same _ _) | (rw [cur_put _ _ _ _ _ hne]; exact cur_same _ _) | (rw [cur_put _ _ _ _ _ hne.symm]; exact cur_same _ _) | (apply cur_old; (repeat' (first | (with_reducible exact nw) | (with_reducible exact nw1) | (with_reducible exact nw2) | (with_reducible exact nw3) | (with_reducible exact nw4) | (with_reducible exact nw5) | (with_reducible assumption) | (with_reducible apply ho) | (with_reducible apply hdr) | (with_reducible apply Grow.heap) | (with_reducible apply hrow) | (with_reducible apply hset) | (with_reducible apply hrow_other) | (with_reducible apply hset_other) | (go_simp; done) | omega))))); (focus kernel_rfl); (focus rfl); (focus (first | (simp; done) | (simp; omega))); (focus (first | (intro _; omega) | (exact notFresh (by kernel_rfl))))) | (apply wpM_mild' rfl rfl; (focus (intro k hk; repeat (first | rfl | (rw [Mu.put_f, if_neg (by omega)])))); (focus (intro x; go_simp; (try go_ints); first | done | (with_reducible rfl) | (with_reducible exact U.out _) | (with_reducible exact D.out _)))) | (apply wpM_mild rfl rfl; (focus (intro x; go_simp; (try go_ints); first | done | (with_reducible rfl) | (with_reducible exact U.out _) | (with_reducible exact D.out _))))); (try simp only [Act.put, List.setIfInBounds_toArray, List.set_cons_zero, List.set_cons_succ]))
  refine wpM_nil ?_
  intro w' hc
  rename_i n1 hn1 hf1
  have f1 := now_is (n := n1) hc (by first | exact Mu.put_same _ _ _ | (rw [Mu.put_f, if_neg (by omega)]; exact Mu.put_same _ _ _))
  have f2 := now_is (n := n) hc (by first | exact Mu.put_same _ _ _ | (rw [Mu.put_f, if_neg (by omega)]; exact Mu.put_same _ _ _))
  obtain ⟨y, rfl⟩ := conv_many hc (fun k hk => by repeat (first | rfl | (rw [Mu.put_f, if_neg (by omega)])))
  have ⟨r1, z1, l1⟩ := rules f1
  have ⟨r2, z2, l2⟩ := rules f2
  have I1 : LtSize n1 y.to := ⟨l1⟩
  have I2 : LtSize n y.to := ⟨l2⟩
  clear hf hf1
  clear hc
  go_wp2_with fail
  refine wp_region_mild (by kernel_rfl) (by kernel_rfl) (by kernel_rfl) ?_
  repeat ((first | (refine wpM_skip rfl ?_) | (apply wpM_plain rfl rfl; (focus (go_simp; first | done | with_reducible rfl))) | (apply wpM_mild rfl rfl; (focus (intro x; go_simp; (try go_ints); first | done | (with_reducible rfl) | (with_reducible exact O.out _) | (with_reducible exact M.out _) | (with_reducible exact L.out _) | (with_reducible exact B.out _) | (with_reducible exact L1.out _))))); (try simp only [Act.put, List.setIfInBounds_toArray, List.set_cons_zero, List.set_cons_succ]))
  refine wpM_nil ?_
  intro w' hc
  obtain ⟨y, rfl⟩ := conv0 hc
  clear hc
  go_wp2_with fail
  refine wp_region_mild (by kernel_rfl) (by kernel_rfl) (by kernel_rfl) ?_
  repeat ((first | (refine wpM_skip rfl ?_) | (apply wpM_plain rfl rfl; (focus (go_simp; first | done | with_reducible rfl))) | (apply wpM_mild rfl rfl; (focus (intro x; go_simp; (try go_ints); first | done | (with_reducible rfl) | (with_reducible exact C1.out _) | (with_reducible exact S3.out _) | (with_reducible exact C2.out _) | (with_reducible exact L2.out _) | (with_reducible exact L1.out _))))); (try simp only [Act.put, List.setIfInBounds_toArray, List.set_cons_zero, List.set_cons_succ]))
  refine wpM_nil ?_
  intro w' hc
  obtain ⟨y, rfl⟩ := conv0 hc
  clear hc
  go_wp2_with fail
  go_returns
  refine ⟨rfl, ?_⟩
  repeat' (first | (with_reducible exact Below.refl _ _) | (with_reducible refine up_alloc ?_ _) | (with_reducible refine up ?_ _) | (with_reducible refine up_drew ?_) | (with_reducible refine up_row ?_ ?_ _) | (with_reducible refine up_set ?_ ?_ _) | ((try dsimp only); first | omega | exact le_size | exact le_size1 | exact le_size2 | exact le_size3))
theorem out (a : Nat) (ha : a < T256) (n : Int) (h : n < 0 ∨ 255 < n) (w : World) : Calls Try.prog 10 #[num a, .int .i64 n] w (Ret (.bool true) w) := by
  have S := shl_all a 0 ha (by omega)
  rw [Nat.pow_zero, Nat.mul_one, Nat.mod_eq_of_lt ha] at S
  simp only [Int.ofNat_zero] at S
  have q := fun w => eql_num a a ha ha w
  simp only [decide_true] at q
  rcases h with h | h
  · replace S := Lib.hid S
    go_enter Try.func10, Try.ntmps10
    go_wp2_with fail
    refine wp_region_mild (by kernel_rfl) (by kernel_rfl) (by kernel_rfl) ?_
    repeat ((first | (refine wpM_skip rfl ?_) | (apply wpM_plain rfl rfl; (focus (go_simp; first | done | with_reducible rfl))) | (apply wpM_mild rfl rfl; (focus (intro x; go_simp; (try go_ints); first | done | (with_reducible rfl) | (with_reducible exact S.out _))))); (try simp only [Act.put, List.setIfInBounds_toArray, List.set_cons_zero, List.set_cons_succ]))
    refine wpM_nil ?_
    intro w' hc
    obtain ⟨y, rfl⟩ := conv0 hc
    clear hc
    go_wp2_with fail
    go_returns
    refine ⟨rfl, ?_⟩
    repeat' (first | (with_reducible exact Below.refl _ _) | (with_reducible refine up_alloc ?_ _) | (with_reducible refine up ?_ _) | (with_reducible refine up_drew ?_) | (with_reducible refine up_row ?_ ?_ _) | (with_reducible refine up_set ?_ ?_ _) | ((try dsimp only); first | omega | exact le_size | exact le_size1 | exact le_size2 | exact le_size3))
  · have n1 : ¬ n < 0 := by omega
    replace S := Lib.hid S
    go_enter Try.func10, Try.ntmps10
    go_wp2_with fail
    refine wp_region_mild (by kernel_rfl) (by kernel_rfl) (by kernel_rfl) ?_
    repeat ((first | (refine wpM_skip rfl ?_) | (apply wpM_plain rfl rfl; (focus (go_simp; first | done | with_reducible rfl))) | (apply wpM_mild rfl rfl; (focus (intro x; go_simp; (try go_ints); first | done | (with_reducible rfl) | (with_reducible exact S.out _))))); (try simp only [Act.put, List.setIfInBounds_toArray, List.set_cons_zero, List.set_cons_succ]))
    refine wpM_nil ?_
    intro w' hc
    obtain ⟨y, rfl⟩ := conv0 hc
    clear hc
    go_wp2_with fail
    go_returns
    refine ⟨rfl, ?_⟩
    repeat' (first | (with_reducible exact Below.refl _ _) | (with_reducible refine up_alloc ?_ _) | (with_reducible refine up ?_ _) | (with_reducible refine up_drew ?_) | (with_reducible refine up_row ?_ ?_ _) | (with_reducible refine up_set ?_ ?_ _) | ((try dsimp only); first | omega | exact le_size | exact le_size1 | exact le_size2 | exact le_size3))
theorem walk (a : Nat) (ha : a < T256) (n : Int) (hn : (Lit.int .i64 n).wf = true) (w : World) : Calls Try.prog 10 #[num a, .int .i64 n] w (Ret (.bool true) w) := by
  by_cases h : n < 0 ∨ 255 < n
  · exact out a ha n h w
  obtain ⟨n, rfl⟩ := Int.eq_ofNat_of_zero_le (show 0 ≤ n by omega)
  have hn1 : n ≤ 255 := by omega
  have p2 : 2 ^ n < T256 := by rw [T256_eq]; exact Nat.pow_lt_pow_right (by omega) (by omega)
  have hp : 0 < 2 ^ n := Nat.two_pow_pos n
  have hd : a / 2 ^ n ≤ a := Nat.div_le_self _ _
  have hx : a / 2 ^ n * 2 ^ n ≤ a := Nat.div_mul_le_self _ _
  have O := shl_all 1 n (by unfold T256; omega) hn1
  rw [Nat.one_mul, Nat.mod_eq_of_lt p2, show num 1 = .agg #[.int .u64 1, .int .u64 0, .int .u64 0, .int .u64 0] from num_one 1 (by omega)] at O
  have S3 := shl_all (a / 2 ^ n) n (by omega) hn1
  rw [Nat.mod_eq_of_lt (show a / 2 ^ n * 2 ^ n < T256 by omega)] at S3
  have q1 := fun w => eql_num (a * 2 ^ n % T256) (a * 2 ^ n % T256) (mod_lt_T _) (mod_lt_T _) w
  simp only [decide_true] at q1
  have b1 : blen a ≤ 256 := blen_le.2 (T256_eq ▸ ha)
  have b2 : blen (a / 2 ^ n) ≤ 256 := blen_le.2 (T256_eq ▸ (Nat.lt_of_le_of_lt hd ha))
  refine core a n (a * 2 ^ n % T256) (2 ^ n) (a * 2 ^ n) (a / 2 ^ n) (a * 2 ^ n % T256 / 2 ^ n) (blen a) (blen (a / 2 ^ n)) (cmpI (a / 2 ^ n) a) (cmpI (a / 2 ^ n * 2 ^ n) a) _ w (by omega) (by omega)
    (shl_all a n ha hn1) (shr_any a n ha hn1) O (mul_all a (2 ^ n) ha p2) (low_all _) (shr_any _ n (mod_lt_T _) hn1) (len_all a ha) (len_all _ (by omega)) (cmp_all _ a (by omega) ha) _ S3 (cmp_all _ a (by omega) ha) q1
    (fun w => eql_num _ a (Nat.lt_of_le_of_lt (Nat.div_le_self _ _) (mod_lt_T _)) ha w) (by omega) (by omega) (by omega) (by omega) ?_ ?_ ?_ ?_
  · apply decide_eq_decide.2
    have k : (blen a : Int) + n ≤ 256 ↔ a * 2 ^ n < T256 := by
      have : (blen a : Int) + n ≤ 256 ↔ blen a ≤ 256 - n := by omega
      rw [this, blen_le, T256_eq]
      conv => rhs; rw [show 256 = 256 - n + n by omega, Nat.pow_add]
      exact (Nat.mul_lt_mul_right hp).symm
    rw [k]
    constructor
    · intro h; rw [Nat.mod_eq_of_lt h]; exact Nat.mul_div_cancel _ hp
    · intro h
      have : a * 2 ^ n ≤ a * 2 ^ n % T256 := by
        have := Nat.div_mul_le_self (a * 2 ^ n % T256) (2 ^ n)
        rwa [h] at this
      exact Nat.lt_of_le_of_lt this (mod_lt_T _)
  · apply decide_eq_true; unfold cmpI; (repeat' split) <;> omega
  · apply decide_eq_true; unfold cmpI; (repeat' split) <;> omega
  · by_cases h : a / 2 ^ n = 0
    · have : blen a ≤ n := blen_le.2 (Nat.lt_of_div_eq_zero hp h)
      rw [h, show blen 0 = 0 from rfl]; omega
    · rw [blen_div a n h]; omega
end Go.Proofs.Ytodhoeijbcclgaa.LimbShiftsWalk
