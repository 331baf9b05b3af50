/- LimbTimes: the walk. -/
import Derived.Test.YtodhoeijbcclgaaPlus
namespace Go.Proofs.Ytodhoeijbcclgaa.LimbTimesWalk
open Go.RowKit
set_option linter.unusedVariables false
theorem z4 : num 0 = .agg #[.int .u64 0, .int .u64 0, .int .u64 0, .int .u64 0] := num_one 0 (by omega)
theorem z8 : wide 0 = .agg #[.int .u64 0, .int .u64 0, .int .u64 0, .int .u64 0, .int .u64 0, .int .u64 0, .int .u64 0, .int .u64 0] := by
  have k := limb_two 0 0 T256_pos
  have k2 := z4
  simp only [num, Value.agg.injEq, Array.mk.injEq, List.cons.injEq, Value.int.injEq, true_and, and_true] at k2
  simp only [Nat.mul_zero, Nat.add_zero] at k
  simp [wide, k, k2]
set_option maxHeartbeats 1000000 in
theorem walk (a : Nat) (ha : a < T256) (b : Nat) (hb : b < T256) (c : Nat) (hc : c < T256) (w : World) :
    Calls Try.prog 8 #[num a, num b, num c] w (Ret (.bool true) w) := by
  have L := limbs_all
  obtain ⟨s, k, h1, hs, hk, C1⟩ := add_all b c hb hc
  have ⟨e1, e2⟩ := h1.out
  have M1 := mul_all a s ha hs
  have W1 := wide_all 0 a T256_pos
  have M2 := mul_all a b ha hb
  have M3 := mul_all b a hb ha
  have M4 := mul_all a c ha hc
  have l1 : a * s < T512 := Nat.mul_lt_mul'' ha hs
  have l2 : a * b < T512 := Nat.mul_lt_mul'' ha hb
  have l4 : a * c < T512 := Nat.mul_lt_mul'' ha hc
  have l5 : T256 * a < T512 := Nat.mul_lt_mul_of_pos_left ha T256_pos
  have l6 : a < T512 := by have : T256 * 1 ≤ T256 * T256 := Nat.mul_le_mul_left _ T256_pos; unfold T512; omega
  have P1 := plus_all (a * s) (T256 * a) l1 l5
  have P2 := plus_all (a * b) (a * c) l2 l4
  have M5 := mul_all a 1 ha (by unfold T256; omega)
  have M6 := mul_all a 0 ha T256_pos
  have K1 := wide_keep a ha
  rw [Nat.zero_add, z4] at W1
  rw [Nat.mul_one, show num 1 = .agg #[.int .u64 1, .int .u64 0, .int .u64 0, .int .u64 0] from num_one 1 (by omega)] at M5
  rw [Nat.mul_zero, z4, z8] at M6
  rw [Nat.mul_comm b a] at M3
  have es : a * b + a * c = a * s + T256 * a * k := by
    rw [← Nat.mul_add, show b + c = s + T256 * k by rw [e1, e2]; exact (Nat.mod_add_div _ _).symm, Nat.mul_add, ← Nat.mul_assoc a, Nat.mul_comm a T256]
  have q1 : ∀ w, _ := fun w => eql_wide (a * b) (a * b) l2 l2 w
  have q2 : ∀ w, _ := fun w => eql_wide ((a * b + a * c) % T512) ((a * b + a * c) % T512) (Nat.mod_lt _ T512_pos) (Nat.mod_lt _ T512_pos) w
  have q3 : ∀ w, _ := fun w => eql_wide a a l6 l6 w
  have q4 : ∀ w, _ := fun w => eql_wide 0 0 T512_pos T512_pos w
  rw [z8] at q4
  simp only [decide_true] at q1 q2 q3 q4
  have hk' : k = 0 ∨ k = 1 := by omega
  rcases hk' with rfl | rfl
  · have e : a * s = (a * b + a * c) % T512 := by rw [es, Nat.mul_zero, Nat.add_zero, Nat.mod_eq_of_lt l1]
    rw [e] at M1
    clear e es h1 e1 e2
    simp only [Int.ofNat_zero] at C1
    replace L := Lib.hid L
    replace C1 := Lib.hid C1
    replace M1 := Lib.hid M1
    replace M2 := Lib.hid M2
    replace M3 := Lib.hid M3
    replace M4 := Lib.hid M4
    replace P2 := Lib.hid P2
    replace M5 := Lib.hid M5
    replace M6 := Lib.hid M6
    replace K1 := Lib.hid K1
    go_enter Try.func8, Try.ntmps8
    go_wp2_with (first | (go_at_call 30; with_reducible refine (grow (L.out _)).mono ?_; rintro _ _ ⟨x1, rfl, rfl⟩) | (go_at_call 21; with_reducible refine (grow (C1.out _)).mono ?_; rintro _ _ ⟨x2, rfl, rfl⟩) | (go_at_call 31; with_reducible refine (grow (M1.out _)).mono ?_; rintro _ _ ⟨x3, rfl, rfl⟩))
    refine wp_region_mild (by kernel_rfl) (by kernel_rfl) (by kernel_rfl) ?_
    repeat ((first | (refine wpM_skip rfl ?_) | (apply wpM_plain rfl rfl; (focus (go_simp; first | done | with_reducible rfl))) | (apply wpM_mild rfl rfl; (focus (intro x; go_simp; (try go_ints); first | done | (with_reducible rfl) | (with_reducible exact M2.out _) | (with_reducible exact M3.out _) | (with_reducible exact M4.out _) | (with_reducible exact P2.out _) | (with_reducible exact M5.out _) | (with_reducible exact M6.out _) | (with_reducible exact K1.out _))))); (try simp only [Act.put, List.setIfInBounds_toArray, List.set_cons_zero, List.set_cons_succ]))
    refine wpM_nil ?_
    intro w' hc
    obtain ⟨y, rfl⟩ := conv0 hc
    clear hc
    go_wp2_with fail
    go_returns
    refine ⟨rfl, ?_⟩
    repeat' (first | (with_reducible exact Below.refl _ _) | (with_reducible refine up_alloc ?_ _) | (with_reducible refine up ?_ _) | (with_reducible refine up_drew ?_) | (with_reducible refine up_row ?_ ?_ _) | (with_reducible refine up_set ?_ ?_ _) | ((try dsimp only); first | omega | exact le_size | exact le_size1 | exact le_size2 | exact le_size3))
  · have e : (a * s + T256 * a) % T512 = (a * b + a * c) % T512 := by rw [es, Nat.mul_one]
    rw [e] at P1
    clear e es h1 e1 e2
    simp only [Int.ofNat_one] at C1
    replace L := Lib.hid L
    replace C1 := Lib.hid C1
    replace M1 := Lib.hid M1
    replace M2 := Lib.hid M2
    replace M3 := Lib.hid M3
    replace M4 := Lib.hid M4
    replace P1 := Lib.hid P1
    replace P2 := Lib.hid P2
    replace M5 := Lib.hid M5
    replace M6 := Lib.hid M6
    replace K1 := Lib.hid K1
    replace W1 := Lib.hid W1
    go_enter Try.func8, Try.ntmps8
    go_wp2_with (first | (go_at_call 30; with_reducible refine (grow (L.out _)).mono ?_; rintro _ _ ⟨x1, rfl, rfl⟩) | (go_at_call 21; with_reducible refine (grow (C1.out _)).mono ?_; rintro _ _ ⟨x2, rfl, rfl⟩) | (go_at_call 31; with_reducible refine (grow (M1.out _)).mono ?_; rintro _ _ ⟨x3, rfl, rfl⟩))
    refine wp_region_mild (by kernel_rfl) (by kernel_rfl) (by kernel_rfl) ?_
    repeat ((first | (refine wpM_skip rfl ?_) | (apply wpM_plain rfl rfl; (focus (go_simp; first | done | with_reducible rfl))) | (refine wpM_alloc rfl rfl (by first | exact zNum | exact zWide) ?_; intro n hn hf; (try have hne := put_ne hf)) | (apply wpM_row rfl rfl rfl; (focus (go_simp; first | done | with_reducible rfl)); (focus (first | (with_reducible exact cur_same _ _) | (rw [cur_put _ _ _ _ _ hne]; exact cur_same _ _) | (rw [cur_put _ _ _ _ _ hne.symm]; exact cur_same _ _) | (apply cur_old; (repeat' (first | (with_reducible exact nw) | (with_reducible exact nw1) | (with_reducible exact nw2) | (with_reducible exact nw3) | (with_reducible exact nw4) | (with_reducible exact nw5) | (with_reducible assumption) | (with_reducible apply ho) | (with_reducible apply hdr) | (with_reducible apply Grow.heap) | (with_reducible apply hrow) | (with_reducible apply hset) | (with_reducible apply hrow_other) | (with_reducible apply hset_other) | (go_simp; done) | omega))))); (focus kernel_rfl); (focus rfl); (focus (simp [Value.oneCell']; done)); (focus (first | (intro _; omega) | (exact notFresh (by kernel_rfl))))) | (apply wpM_cell rfl rfl rfl; (focus (go_simp; first | done | with_reducible rfl)); (focus (first | (with_reducible exact cur_same _ _) | (rw [cur_put _ _ _ _ _ hne]; exact cur_same _ _) | (rw [cur_put _ _ _ _ _ hne.symm]; exact cur_same _ _) | (apply cur_old; (repeat' (first | (with_reducible exact nw) | (with_reducible exact nw1) | (with_reducible exact nw2) | (with_reducible exact nw3) | (with_reducible exact nw4) | (with_reducible exact nw5) | (with_reducible assumption) | (with_reducible apply ho) | (with_reducible apply hdr) | (with_reducible apply Grow.heap) | (with_reducible apply hrow) | (with_reducible apply hset) | (with_reducible apply hrow_other) | (with_reducible apply hset_other) | (go_simp; done) | omega))))); (focus kernel_rfl); (focus rfl); (focus (first | (simp; done) | (simp; omega))); (focus (first | (intro _; omega) | (exact notFresh (by kernel_rfl))))) | (apply wpM_mild rfl rfl; (focus (intro x; go_simp; (try go_ints); first | done | (with_reducible rfl) | (with_reducible exact W1.out _) | (with_reducible exact P1.out _))))); (try simp only [Act.put, List.setIfInBounds_toArray, List.set_cons_zero, List.set_cons_succ]))
    refine wpM_nil ?_
    intro w' hc
    obtain ⟨y, rfl⟩ := convS hc (by (repeat' (first | (with_reducible exact nw) | (with_reducible exact nw1) | (with_reducible exact nw2) | (with_reducible exact nw3) | (with_reducible exact nw4) | (with_reducible exact nw5) | (with_reducible assumption) | (with_reducible apply ho) | (with_reducible apply hdr) | (with_reducible apply Grow.heap) | (with_reducible apply hrow) | (with_reducible apply hset) | (with_reducible apply hrow_other) | (with_reducible apply hset_other) | (go_simp; done) | omega))) (fun k hk => by rw [Mu.put_f, if_neg hk]; rfl) (Mu.put_same _ _ _)
    clear hc
    go_wp2_with fail
    refine wp_region_mild (by kernel_rfl) (by kernel_rfl) (by kernel_rfl) ?_
    repeat ((first | (refine wpM_skip rfl ?_) | (apply wpM_plain rfl rfl; (focus (go_simp; first | done | with_reducible rfl))) | (apply wpM_mild rfl rfl; (focus (intro x; go_simp; (try go_ints); first | done | (with_reducible rfl) | (with_reducible exact M2.out _) | (with_reducible exact M3.out _) | (with_reducible exact M4.out _) | (with_reducible exact P2.out _) | (with_reducible exact M5.out _) | (with_reducible exact M6.out _) | (with_reducible exact K1.out _))))); (try simp only [Act.put, List.setIfInBounds_toArray, List.set_cons_zero, List.set_cons_succ]))
    refine wpM_nil ?_
    intro w' hc
    obtain ⟨y, rfl⟩ := conv0 hc
    clear hc
    go_wp2_with fail
    go_returns
    refine ⟨rfl, ?_⟩
    repeat' (first | (with_reducible exact Below.refl _ _) | (with_reducible refine up_alloc ?_ _) | (with_reducible refine up ?_ _) | (with_reducible refine up_drew ?_) | (with_reducible refine up_row ?_ ?_ _) | (with_reducible refine up_set ?_ ?_ _) | ((try dsimp only); first | omega | exact le_size | exact le_size1 | exact le_size2 | exact le_size3))
end Go.Proofs.Ytodhoeijbcclgaa.LimbTimesWalk
