/- plus and wide of sealringkeep, and its sanity check of limbs; plain laws of products. -/
import Derived.Test.YtodhoeijbcclgaaAddSub
import Derived.Test.YtodhoeijbcclgaaEqNum
import Derived.Test.YtodhoeijbcclgaaEqWide
import Derived.Test.YtodhoeijbcclgaaLimb1
import Derived.Test.YtodhoeijbcclgaaMul
namespace Go.Proofs.Ytodhoeijbcclgaa
open Go.RowKit
set_option linter.unusedVariables false
theorem add_div' {T a b : Nat} (hT : 0 < T) : (a + b) / T = a / T + b / T + (a % T + b % T) / T := by
  have e : a + b = (a % T + b % T) + T * (a / T + b / T) := by
    have h1 := Nat.mod_add_div a T; have h2 := Nat.mod_add_div b T
    rw [Nat.mul_add]; omega
  conv => lhs; rw [e, Nat.add_mul_div_left _ _ hT]
  omega
theorem plus_law {T a b : Nat} (hT : 0 < T) : (a % T + b % T) % T + T * (((a / T + b / T) % T + (a % T + b % T) / T) % T) = (a + b) % (T * T) := by
  rw [Nat.mod_mul]
  have e3 : ∀ x y : Nat, (x % T + y) % T = (x + y) % T := fun x y => Nat.mod_add_mod _ _ _
  have e1 : (a + b) % T = (a % T + b % T) % T := Nat.add_mod a b T
  have e2 := add_div' (a := a) (b := b) hT
  rw [e1, e2, e3 (a / T + b / T)]
set_option maxHeartbeats 1000000 in
theorem plus_walk (a b : Nat) (w : World) (x y s t u v p : Nat) (r : Nat) (c d e : Nat)
   (L1 : ∀ w, Calls Try.prog 27 #[wide a] w (Ret (num x) w)) (L2 : ∀ w, Calls Try.prog 27 #[wide b] w (Ret (num y) w)) (A1 : ∀ w, Calls Try.prog 21 #[num x, num y] w (Ret (.tuple #[num s, .int .u64 c]) w))
   (H1 : ∀ w, Calls Try.prog 28 #[wide a] w (Ret (num t) w)) (H2 : ∀ w, Calls Try.prog 28 #[wide b] w (Ret (num u) w)) (A2 : ∀ w, Calls Try.prog 21 #[num t, num u] w (Ret (.tuple #[num v, .int .u64 d]) w))
   (A3 : ∀ w, Calls Try.prog 21 #[num v, .agg #[.int .u64 c, .int .u64 0, .int .u64 0, .int .u64 0]] w (Ret (.tuple #[num p, .int .u64 e]) w))
   (W1 : ∀ w, Calls Try.prog 26 #[num s, num p] w (Ret (wide r) w)) :
    Calls Try.prog 32 #[wide a, wide b] w (Ret (wide r) w) := by
  replace L1 := Lib.hid L1
  replace L2 := Lib.hid L2
  replace A1 := Lib.hid A1
  replace A2 := Lib.hid A2
  replace H1 := Lib.hid H1
  replace H2 := Lib.hid H2
  replace A3 := Lib.hid A3
  replace W1 := Lib.hid W1
  go_enter Try.func32, Try.ntmps32
  go_wp2
  refine wp_region_mild (by kernel_rfl) (by kernel_rfl) (by kernel_rfl) ?_
  repeat ((first | (refine wpM_skip rfl ?_) | (apply wpM_plain rfl rfl; (focus (go_simp; first | done | with_reducible rfl))) | (refine wpM_alloc rfl rfl (by first | exact zNum | exact zWide) ?_; intro n hn hf; (try have hne := put_ne hf)) | (apply wpM_row rfl rfl rfl; (focus (go_simp; first | done | with_reducible rfl)); (focus (first | (with_reducible exact cur_same _ _) | (rw [cur_put _ _ _ _ _ hne]; exact cur_same _ _) | (rw [cur_put _ _ _ _ _ hne.symm]; exact cur_same _ _) | (apply cur_old; (repeat' (first | (with_reducible exact nw) | (with_reducible exact nw1) | (with_reducible exact nw2) | (with_reducible exact nw3) | (with_reducible exact nw4) | (with_reducible exact nw5) | (with_reducible assumption) | (with_reducible apply ho) | (with_reducible apply hdr) | (with_reducible apply Grow.heap) | (with_reducible apply hrow) | (with_reducible apply hset) | (with_reducible apply hrow_other) | (with_reducible apply hset_other) | (go_simp; done) | omega))))); (focus kernel_rfl); (focus rfl); (focus (simp [Value.oneCell']; done)); (focus (first | (intro _; omega) | (exact notFresh (by kernel_rfl))))) | (apply wpM_cell rfl rfl rfl; (focus (go_simp; first | done | with_reducible rfl)); (focus (first | (with_reducible exact cur_same _ _) | (rw [cur_put _ _ _ _ _ hne]; exact cur_same _ _) | (rw [cur_put _ _ _ _ _ hne.symm]; exact cur_same _ _) | (apply cur_old; (repeat' (first | (with_reducible exact nw) | (with_reducible exact nw1) | (with_reducible exact nw2) | (with_reducible exact nw3) | (with_reducible exact nw4) | (with_reducible exact nw5) | (with_reducible assumption) | (with_reducible apply ho) | (with_reducible apply hdr) | (with_reducible apply Grow.heap) | (with_reducible apply hrow) | (with_reducible apply hset) | (with_reducible apply hrow_other) | (with_reducible apply hset_other) | (go_simp; done) | omega))))); (focus kernel_rfl); (focus rfl); (focus (first | (simp; done) | (simp; omega))); (focus (first | (intro _; omega) | (exact notFresh (by kernel_rfl))))) | (apply wpM_mild rfl rfl; (focus (intro x; go_simp; (try go_ints); first | done | (with_reducible rfl) | (with_reducible exact L1.out _) | (with_reducible exact L2.out _) | (with_reducible exact A1.out _))))); (try simp only [Act.put, List.setIfInBounds_toArray, List.set_cons_zero, List.set_cons_succ]))
  refine wpM_nil ?_
  intro w' hc
  obtain ⟨y0, y, rfl, rfl⟩ := conv1 (by assumption) hc (fun k hk => by rw [Mu.put_f, if_neg (by omega), Mu.put_f, if_neg (by omega)]; rfl) (Mu.put_same _ _ _)
  clear hc
  go_wp2
  refine wp_region_mild (by kernel_rfl) (by kernel_rfl) (by kernel_rfl) ?_
  repeat ((first | (refine wpM_skip rfl ?_) | (apply wpM_plain rfl rfl; (focus (go_simp; first | done | with_reducible rfl))) | (refine wpM_alloc rfl rfl (by first | exact zNum | exact zWide) ?_; intro n hn hf; (try have hne := put_ne hf)) | (apply wpM_row rfl rfl rfl; (focus (go_simp; first | done | with_reducible rfl)); (focus (first | (with_reducible exact cur_same _ _) | (rw [cur_put _ _ _ _ _ hne]; exact cur_same _ _) | (rw [cur_put _ _ _ _ _ hne.symm]; exact cur_same _ _) | (apply cur_old; (repeat' (first | (with_reducible exact nw) | (with_reducible exact nw1) | (with_reducible exact nw2) | (with_reducible exact nw3) | (with_reducible exact nw4) | (with_reducible exact nw5) | (with_reducible assumption) | (with_reducible apply ho) | (with_reducible apply hdr) | (with_reducible apply Grow.heap) | (with_reducible apply hrow) | (with_reducible apply hset) | (with_reducible apply hrow_other) | (with_reducible apply hset_other) | (go_simp; done) | omega))))); (focus kernel_rfl); (focus rfl); (focus (simp [Value.oneCell']; done)); (focus (first | (intro _; omega) | (exact notFresh (by kernel_rfl))))) | (apply wpM_cell rfl rfl rfl; (focus (go_simp; first | done | with_reducible rfl)); (focus (first | (with_reducible exact cur_same _ _) | (rw [cur_put _ _ _ _ _ hne]; exact cur_same _ _) | (rw [cur_put _ _ _ _ _ hne.symm]; exact cur_same _ _) | (apply cur_old; (repeat' (first | (with_reducible exact nw) | (with_reducible exact nw1) | (with_reducible exact nw2) | (with_reducible exact nw3) | (with_reducible exact nw4) | (with_reducible exact nw5) | (with_reducible assumption) | (with_reducible apply ho) | (with_reducible apply hdr) | (with_reducible apply Grow.heap) | (with_reducible apply hrow) | (with_reducible apply hset) | (with_reducible apply hrow_other) | (with_reducible apply hset_other) | (go_simp; done) | omega))))); (focus kernel_rfl); (focus rfl); (focus (first | (simp; done) | (simp; omega))); (focus (first | (intro _; omega) | (exact notFresh (by kernel_rfl))))) | (apply wpM_mild rfl rfl; (focus (intro x; go_simp; (try go_ints); first | done | (with_reducible rfl) | (with_reducible exact H1.out _) | (with_reducible exact H2.out _) | (with_reducible exact A2.out _))))); (try simp only [Act.put, List.setIfInBounds_toArray, List.set_cons_zero, List.set_cons_succ]))
  refine wpM_nil ?_
  intro w' hc
  obtain ⟨y0, y, rfl, rfl⟩ := conv1 (by assumption) hc (fun k hk => by rw [Mu.put_f, if_neg (by omega), Mu.put_f, if_neg (by omega)]; rfl) (Mu.put_same _ _ _)
  clear hc
  go_wp2_with (first | (go_at_call 21; with_reducible refine (grow (A3.out _)).mono ?_; rintro _ _ ⟨x1, rfl, rfl⟩) | (go_at_call 26; with_reducible refine (grow (W1.out _)).mono ?_; rintro _ _ ⟨x2, rfl, rfl⟩))
  go_returns
  refine ⟨rfl, ?_⟩
  repeat' (first | (with_reducible exact Below.refl _ _) | (with_reducible assumption) | (with_reducible refine up_alloc ?_ _) | (with_reducible refine up ?_ _) | (with_reducible refine up_drew ?_) | (with_reducible refine up_row ?_ ?_ _) | (with_reducible refine up_set ?_ ?_ _) | ((try dsimp only); first | omega | exact le_size | exact le_size1 | exact le_size2 | exact le_size3))
theorem num_one (c : Nat) (h : c < 18446744073709551616) : num c = .agg #[.int .u64 c, .int .u64 0, .int .u64 0, .int .u64 0] := by
  have k := limb_four c 0 0 0 h (by omega) (by omega) (by omega)
  have e : four c 0 0 0 = c := by unfold four; omega
  rw [e] at k
  simp [k.1, k.2.1, k.2.2.1, k.2.2.2]
theorem plus_all (a b : Nat) (ha : a < T512) (hb : b < T512) (w : World) :
    Calls Try.prog 32 #[wide a, wide b] w (Ret (wide ((a + b) % T512)) w) := by
  obtain ⟨s, c, h1, hs, hc, C1⟩ := add_all (a % T256) (b % T256) (mod_lt_T a) (mod_lt_T b)
  obtain ⟨v, d, h2, hv, hd, C2⟩ := add_all (a / T256) (b / T256) (div_lt_T ha) (div_lt_T hb)
  obtain ⟨p, e, h3, hp, he, C3⟩ := add_all v c hv (by unfold T256; omega)
  have k := plus_law (T := T256) (a := a) (b := b) T256_pos
  rw [show (num c) = _ from num_one c (by omega)] at C3
  have e : (a + b) % T512 = s + T256 * p := by
    unfold T512
    obtain ⟨rfl, rfl⟩ := h1.out
    obtain ⟨rfl, -⟩ := h2.out
    obtain ⟨rfl, -⟩ := h3.out
    exact k.symm
  rw [e]
  exact plus_walk a b w _ _ s _ _ v p _ c d _ (low_all a) (low_all b) C1 (high_all a) (high_all b) C2 C3 (wide_all s p hs)
theorem wide_keep (a : Nat) (ha : a < T256) (w : World) : Calls Try.prog 33 #[num a] w (Ret (wide a) w) := by
  have W1 := wide_all a 0 ha
  rw [show num 0 = .agg #[.int .u64 0, .int .u64 0, .int .u64 0, .int .u64 0] from num_one _ (by omega), show a + T256 * 0 = a by omega] at W1
  replace W1 := Lib.hid W1
  go_enter Try.func33, Try.ntmps33
  go_wp2_with (first | (go_at_call 26; with_reducible refine (grow (W1.out _)).mono ?_; rintro _ _ ⟨x1, rfl, rfl⟩))
  go_returns
  refine ⟨rfl, ?_⟩
  repeat' (first | (with_reducible exact Below.refl _ _) | (with_reducible assumption) | (with_reducible refine up_alloc ?_ _) | (with_reducible refine up ?_ _) | (with_reducible refine up_drew ?_) | (with_reducible refine up_row ?_ ?_ _) | (with_reducible refine up_set ?_ ?_ _) | ((try dsimp only); first | omega | exact le_size | exact le_size1 | exact le_size2 | exact le_size3))
theorem limbs_all (w : World) : Calls Try.prog 30 #[] w (Ret (.bool true) w) := by
  have A1 := add_num 18446744073709551615 2 (by unfold T256; omega) (by unfold T256; omega)
  have M1 := mul_all 3 5 (by unfold T256; omega) (by unfold T256; omega)
  have e1 : (18446744073709551615 + 2) % T256 = 18446744073709551617 := by decide +kernel
  have e2 : (((18446744073709551615 + 2) / T256 : Nat) : Int) = 0 := by decide +kernel
  have n1 : num 18446744073709551617 = .agg #[.int .u64 1, .int .u64 1, .int .u64 0, .int .u64 0] := by
    have k := limb_four 1 1 0 0 (by omega) (by omega) (by omega) (by omega)
    have e : four 1 1 0 0 = 18446744073709551617 := by unfold four; omega
    rw [e] at k
    simp [k.1, k.2.1, k.2.2.1, k.2.2.2]
  have n2 : wide (3 * 5) = .agg #[.int .u64 15, .int .u64 0, .int .u64 0, .int .u64 0, .int .u64 0, .int .u64 0, .int .u64 0, .int .u64 0] := by
    have k := limb_two 15 0 (by unfold T256; omega)
    have k1 := num_one 15 (by omega)
    have k2 := num_one 0 (by omega)
    simp only [num, Value.agg.injEq, Array.mk.injEq, List.cons.injEq, Value.int.injEq, true_and, and_true] at k1 k2
    simp only [Nat.mul_zero, Nat.add_zero] at k
    simp [wide, k, k1, k2]
  rw [show num 18446744073709551615 = .agg #[.int .u64 18446744073709551615, .int .u64 0, .int .u64 0, .int .u64 0] from num_one _ (by omega), show num 2 = .agg #[.int .u64 2, .int .u64 0, .int .u64 0, .int .u64 0] from num_one _ (by omega), e1, e2, n1] at A1
  rw [show num 3 = .agg #[.int .u64 3, .int .u64 0, .int .u64 0, .int .u64 0] from num_one _ (by omega), show num 5 = .agg #[.int .u64 5, .int .u64 0, .int .u64 0, .int .u64 0] from num_one _ (by omega), n2] at M1
  have q1 : ∀ w, _ := fun w => eql_num 18446744073709551617 18446744073709551617 (by unfold T256; omega) (by unfold T256; omega) w
  have q2 : ∀ w, _ := fun w => eql_wide (3 * 5) (3 * 5) (by unfold T512 T256; omega) (by unfold T512 T256; omega) w
  rw [n1] at q1
  rw [n2] at q2
  simp only [decide_true] at q1 q2
  replace A1 := Lib.hid A1
  replace M1 := Lib.hid M1
  go_enter Try.func30, Try.ntmps30
  go_wp2_with (first | (go_at_call 21; with_reducible refine (grow (A1.out _)).mono ?_; rintro _ _ ⟨x1, rfl, rfl⟩) | (go_at_call 31; with_reducible refine (grow (M1.out _)).mono ?_; rintro _ _ ⟨x2, rfl, rfl⟩))
  go_returns
  refine ⟨rfl, ?_⟩
  repeat' (first | (with_reducible exact Below.refl _ _) | (with_reducible assumption) | (with_reducible refine up_alloc ?_ _) | (with_reducible refine up ?_ _) | (with_reducible refine up_drew ?_) | (with_reducible refine up_row ?_ ?_ _) | (with_reducible refine up_set ?_ ?_ _) | ((try dsimp only); first | omega | exact le_size | exact le_size1 | exact le_size2 | exact le_size3))
end Go.Proofs.Ytodhoeijbcclgaa
