/- field.Mul. -/
import Derived.Test.YtkbgkobbadjpnaaDoorPlainA
import Derived.Test.YtkbgkobbadjpnaaDoorField
namespace Go.Proofs.YtkbgkobbadjpnaaDoor
open Go.RowKit
set_option linter.unusedVariables false
set_option linter.unusedSimpArgs false
set_option maxRecDepth 8000
theorem mul64_38 (A : Nat) (hA : A < 18446744073709551616) : ∃ hi lo : Nat, A * 38 = lo + 18446744073709551616 * hi ∧ lo < 18446744073709551616 ∧ hi < 38 ∧
    ∀ w, Calls Tryd.prog 90 #[.int .u64 A, .int .u64 38] w (Ret (.tuple #[.int .u64 hi, .int .u64 lo]) w) :=
  ⟨A * 38 / 18446744073709551616, A * 38 % 18446744073709551616, by omega, by omega, by omega, fun w => (mul64 A 38 hA (by omega) w).mono fun e w' ⟨h1, h2⟩ => by
    subst h2; exact ⟨h1, Below.refl _ _⟩⟩
theorem add64_nat (x y : Nat) (hx : x < 18446744073709551616) (hy : y < 18446744073709551616) : ∃ lo c : Nat, x + y = lo + 18446744073709551616 * c ∧ lo < 18446744073709551616 ∧ c ≤ 1 ∧
    ∀ w : World, (callFunc 47 #[.int .u64 (x : Int), .int .u64 (y : Int), .int .u64 0]).run Tryd.prog w = .ok (.value (.tuple #[.int .u64 (lo : Int), .int .u64 (c : Int)])) w :=
  ⟨(x + y) % 18446744073709551616, (x + y) / 18446744073709551616, by omega, by omega, by omega, fun w => by
    have h := run_add (x : Int) (y : Int) 0 ⟨by omega, by omega⟩ ⟨by omega, by omega⟩ (by omega) (by omega) w
    rw [h]
    unfold sumLo sumHi
    congr 5⟩
set_option maxHeartbeats 4000000 in
theorem mul_f (a b : Nat) (ha : a < T256) (hb : b < T256) (w : World) : Calls Tryd.prog 70 [nu a, nu b].toArray w (Ret (nu (a * b % PP)) w) := by
  have Mc := mul_nu a b ha hb
  have hW : a * b < T512 := Nat.mul_lt_mul'' ha hb
  obtain ⟨W, eW⟩ : ∃ W, W = a * b := ⟨_, rfl⟩
  rw [← eW] at Mc hW ⊢
  have z := fm_zero W
  refine fn_ret (N := _) Tryd.func70 rfl Tryd.ntmps70 Tryd.results70 (by simp) ?_
  simp only [initS, Nat.reduceAdd, Nat.zero_add]
  repeat' (first | (refine wlB ?_) | ((with_reducible refine sel_call ?_); refine wl_rd rfl rfl (rd_call rfl rfl rfl (fun w hm => by with_reducible exact Mc w)) ?_) | (refine wlE ?_) | (refine efZCnn ?_; intro n hn) | (refine efBnn ?_; intro n hn) | (refine efB ?_) | (refine wl_skip rfl rfl ?_) | ((with_reducible refine wc_seq ?_); intro K hK) | (refine auC ?_) | (refine wc_cond rfl (fun hc => ?_) (fun hc => ?_)) | (refine wc_draw (by kernel_rfl) (by kernel_rfl) (by decide +kernel) ?_; intro w0 hw0 hm0; (try simp only [List.append_eq, List.cons_append, List.nil_append])) | (refine auP ?_) | ((refine auR ?_); clear hK K) | (refine auR ?_) | ((with_reducible refine hK _ _ ?_); clear hK K) | fail)
  rename_i n2 g2 n3 g3 n4 g4 n5 g5
  obtain ⟨n6, rfl⟩ : ∃ n6, n6 = n := ⟨n, rfl⟩
  refine wc_loop (σ := Nat) (fun i => [(2, ptr n2), (3, ptr n3), (4, ptr n4), (5, ptr n5), (6, ptr n6), (7, .int .u64 (fmC W i : Nat)), (16, .int .i64 (i : Int))])
    (fun i => [(n6, numC (fmO W i), 29), (n5, wideC W, 101), (n4, numC 0, 29), (n3, numC b, 29), (n2, numC a, 29)])
    (fun i => i ≤ 4) (fun i => 4 - i) 0 (Nat.zero_le _) (Fits.of (by rw [z.2]; exact ⟨rfl, rfl, rfl, rfl, rfl, rfl, rfl, trivial⟩) (by
      rw [z.1]
      repeat (first | exact SubL.nil | exact SubL.refl _ | refine SubL.keep ?_ | exact SubL.headA _ _ | refine SubL.keepA ?_ _ | refine SubL.skip ?_ | refine SubL.skipA ?_ _)) rfl) ?_
  clear z Mc
  intro i hi
  by_cases hlt : i < 4
  · have t1 : decide ((i : Int) < 4) = true := decide_eq_true (by omega)
    have h4 : IntKind.i64.wrap ((i : Int) + 4) = ((i + 4 : Nat) : Int) := wrap_i64 _ (by omega) (by omega)
    have h1 : IntKind.i64.wrap ((i : Int) + 1) = ((i + 1 : Nat) : Int) := wrap_i64 _ (by omega) (by omega)
    have p4 : 0 + ((i + 4 : Nat) : Int).toNat * 1 = i + 4 := by omega
    have p0 : 0 + (i : Int).toNat * 1 = i := by omega
    have l4 := wideC_get W (i + 4) (by omega)
    have l0 := wideC_get W i (by omega)
    rw [limb_lw] at l4 l0
    obtain ⟨A, hA⟩ : ∃ A, A = lw W (i + 4) := ⟨_, rfl⟩
    obtain ⟨B, hB⟩ : ∃ B, B = lw W i := ⟨_, rfl⟩
    have bA : A < 18446744073709551616 := by rw [hA]; exact lw_lt _ _
    have bB : B < 18446744073709551616 := by rw [hB]; exact lw_lt _ _
    rw [← hA] at l4
    rw [← hB] at l0
    have hC := fmC_lt W i
    obtain ⟨hi', lo, q1, q2, q3, X1⟩ := mul64_38 A bA
    obtain ⟨lo1, c1, q4, q5, q6, X2⟩ := add64_nat lo B q2 bB
    obtain ⟨lo2, c2, q7, q8, q9, X3⟩ := add64_nat lo1 (fmC W i) q5 (by omega)
    have s1 : IntKind.u64.wrap ((hi' : Int) + (c1 : Int)) = ((hi' + c1 : Nat) : Int) := by rw [wrap_u64 _ (by omega) (by omega)]; omega
    have s2 : IntKind.u64.wrap (((hi' + c1 : Nat) : Int) + (c2 : Int)) = ((hi' + c1 + c2 : Nat) : Int) := by rw [wrap_u64 _ (by omega) (by omega)]; omega
    obtain ⟨e1, e2⟩ := fm_step (c := hi' + c1 + c2) hA hB (by omega) q8
    obtain ⟨f1, f2⟩ := limb_top (fmO W i) i lo2 (fmO_lt W i) q8
    rw [← e2] at f1 f2
    have hput := numC_put (fmO W i) (fmO W (i + 1)) i _ hlt f1 (fun k _ h => f2 k h)
    clear q1 q2 q3 q4 q5 q6 q7 q8 q9 hC bA bB hA hB e2 f1 f2 ha hb hW eW hi
    repeat' (first | (refine wlB ?_) | ((with_reducible refine sel_call ?_); refine wl_rd rfl rfl (rd_call rfl rfl rfl (fun w hm => by with_reducible exact X1 w)) ?_) | ((with_reducible refine sel_call ?_); refine wv rfl rfl (rd_ext rfl rfl rfl (by with_reducible exact X2)) ?_) | ((with_reducible refine sel_call ?_); refine wv rfl rfl (rd_ext rfl rfl rfl (by with_reducible exact X3)) ?_) | (refine wlE ?_) | (refine efZCnn ?_; intro n hn) | (refine efBnn ?_; intro n hn) | (refine efB ?_) | (refine wl_skip rfl rfl ?_) | ((with_reducible refine wc_seq ?_); intro K hK) | (refine auC ?_) | (refine wc_cond rfl (fun hc => ?_) (fun hc => ?_)) | (refine wc_draw (by kernel_rfl) (by kernel_rfl) (by decide +kernel) ?_; intro w0 hw0 hm0; (try simp only [List.append_eq, List.cons_append, List.nil_append])) | (refine auP ?_) | ((refine auR ?_); clear hK K) | (refine auR ?_) | ((with_reducible refine hK _ _ ?_); clear hK K) | fail)
    exact ⟨i + 1, hlt, by omega, Fits.of (by rw [e1]; exact ⟨rfl, rfl, rfl, rfl, rfl, rfl, rfl, trivial⟩) (by
      repeat (first | exact SubL.nil | exact SubL.refl _ | refine SubL.keep ?_ | exact SubL.headA _ _ | refine SubL.keepA ?_ _ | refine SubL.skip ?_ | refine SubL.skipA ?_ _)) rfl⟩
  · obtain rfl : i = 4 := by omega
    have t1 : decide (((4 : Nat) : Int) < 4) = false := rfl
    obtain ⟨k1, k2⟩ := fm_end W hW
    have hT := PP_T
    have hP := PP_pos
    have hC := fmC_lt W 4
    have hO : fmO W 4 < T256 := by have := fmO_lt W 4; rwa [show 2 ^ (64 * 4) = T256 from T256_eq.symm] at this
    generalize fmO W 4 = O at *
    generalize fmC W 4 = C at *
    have kf := fm_fold hT k2
    rw [k1] at kf
    have m1 : IntKind.u64.wrap ((C : Int) * 38) = ((C * 38 : Nat) : Int) := by rw [wrap_u64 _ (by omega) (by omega)]; omega
    have v1 := nu_lit (C * 38) (by omega)
    have hB : 5000 < T256 := by decide +kernel
    have A1 := add_nu O (C * 38) hO (by omega)
    by_cases ho : O + C * 38 < T256
    · rw [Nat.mod_eq_of_lt ho, Nat.div_eq_of_lt ho] at A1
      have L := low_f (O + C * 38) ho
      rw [Nat.mul_comm C 38, kf, Nat.mul_comm 38 C] at L
      have t2 : ((((0 : Nat)) : Int) == 1) = false := rfl
      clear k1 k2 kf hT hP hC hO ho hB ha hb hW eW hi hlt
      repeat' (first | (refine wlB ?_) | ((with_reducible refine sel_build ?_); refine wv rfl rfl (rd_cast (rd_buildA rfl rfl) v1) ?_) | ((with_reducible refine sel_call ?_); refine wl_rd rfl rfl (rd_call rfl rfl rfl (fun w hm => by with_reducible first | exact A1 w | exact L w)) ?_) | (refine wlE ?_) | (refine efZCnn ?_; intro n hn) | (refine efBnn ?_; intro n hn) | (refine efB ?_) | (refine wl_skip rfl rfl ?_) | ((with_reducible refine wc_seq ?_); intro K hK) | (refine auC ?_) | (refine wc_cond rfl (fun hc => ?_) (fun hc => ?_)) | (refine wc_draw (by kernel_rfl) (by kernel_rfl) (by decide +kernel) ?_; intro w0 hw0 hm0; (try simp only [List.append_eq, List.cons_append, List.nil_append])) | (refine auP ?_) | ((refine auR ?_); clear hK K) | (refine auR ?_) | ((with_reducible refine hK _ _ ?_); clear hK K) | fail)
      first | refine end_ret (ResP.cell rfl ld_whole ResP.nil) ?_ | refine end_normal (ResP.cell rfl ld_whole ResP.nil) ?_
      first | rfl | (show _ = _; rfl) | (simp only [tupV, *]; done)
    · have e1 : (O + C * 38) % T256 = O + C * 38 - T256 := by rw [Nat.mod_eq_sub_mod (by omega), Nat.mod_eq_of_lt (by omega)]
      have e2 : (O + C * 38) / T256 = 1 := by
        rw [Nat.div_eq_sub_div (by omega) (by omega), Nat.div_eq_of_lt (by omega)]
      rw [e1, e2] at A1
      have A2 := add_nu (O + C * 38 - T256) 38 (by omega) (by omega)
      rw [Nat.mod_eq_of_lt (show O + C * 38 - T256 + 38 < T256 by omega)] at A2
      have L := low_f (O + C * 38 - T256 + 38) (by omega)
      have e3 : (O + C * 38 - T256 + 38) % PP = W % PP := by
        rw [← kf, show O + 38 * C = (O + C * 38 - T256 + 38) + PP * 2 by omega, Nat.add_mul_mod_self_left]
      rw [e3] at L
      have t2 : ((((1 : Nat)) : Int) == 1) = true := rfl
      generalize O + C * 38 - T256 + 38 = y at *
      generalize O + C * 38 - T256 = x at *
      generalize (x + 38) / T256 = z at *
      clear k1 k2 kf hT hP hC hO ho hB ha hb hW eW hi hlt e1 e2 e3
      repeat' (first | (refine wlB ?_) | ((with_reducible refine sel_build ?_); refine wv rfl rfl (rd_cast (rd_buildA rfl rfl) v1) ?_) | (refine wlNL ?_) | ((with_reducible refine sel_call ?_); refine wl_rd rfl rfl (rd_call rfl rfl rfl (fun w hm => by with_reducible first | exact A1 w | exact A2 w | exact L w)) ?_) | (refine wlE ?_) | (refine efZCnn ?_; intro n hn) | (refine efBnn ?_; intro n hn) | (refine efB ?_) | (refine wl_skip rfl rfl ?_) | ((with_reducible refine wc_seq ?_); intro K hK) | (refine auC ?_) | (refine wc_cond rfl (fun hc => ?_) (fun hc => ?_)) | (refine wc_draw (by kernel_rfl) (by kernel_rfl) (by decide +kernel) ?_; intro w0 hw0 hm0; (try simp only [List.append_eq, List.cons_append, List.nil_append])) | (refine auP ?_) | ((refine auR ?_); clear hK K) | (refine auR ?_) | ((with_reducible refine hK _ _ ?_); clear hK K) | fail)
      first | refine end_ret (ResP.cell rfl ld_whole ResP.nil) ?_ | refine end_normal (ResP.cell rfl ld_whole ResP.nil) ?_
      first | rfl | (show _ = _; rfl) | (simp only [tupV, *]; done)
end Go.Proofs.YtkbgkobbadjpnaaDoor
