/- field.P, Low, Add, Sub. -/
import Derived.Test.YtkbgkobbadjpnaaDoorPlainA
import Derived.Test.YtkbgkobbadjpnaaDoorQuotAll
namespace Go.Proofs.YtkbgkobbadjpnaaDoor
open Go.RowKit
set_option linter.unusedVariables false
set_option linter.unusedSimpArgs false
set_option maxRecDepth 8000
theorem PP_val : Value.agg [.int .u64 18446744073709551597, .int .u64 18446744073709551615, .int .u64 18446744073709551615, .int .u64 9223372036854775807].toArray = nu PP := by
  rw [← nu_num]
  have e0 : limb PP 0 = 18446744073709551597 := by decide +kernel
  have e1 : limb PP 1 = 18446744073709551615 := by decide +kernel
  have e2 : limb PP 2 = 18446744073709551615 := by decide +kernel
  have e3 : limb PP 3 = 9223372036854775807 := by decide +kernel
  unfold num
  rw [e0, e1, e2, e3]
theorem p_f (w : World) : Calls Tryd.prog 89 [].toArray w (Ret (nu PP) w) := by
  refine fn_ret (N := _) Tryd.func89 rfl Tryd.ntmps89 Tryd.results89 (by simp) ?_
  simp only [initS, Nat.reduceAdd, Nat.zero_add]
  repeat' (first | ((with_reducible refine sel_build ?_); refine wv rfl rfl (rd_cast (rd_buildA rfl rfl) PP_val) ?_) | (refine wlE ?_) | (refine efZCnn ?_; intro n hn) | (refine efBnn ?_; intro n hn) | (refine efB ?_) | (refine wl_skip rfl rfl ?_) | ((with_reducible refine wc_seq ?_); intro K hK) | (refine auC ?_) | (refine wc_cond rfl (fun hc => ?_) (fun hc => ?_)) | (refine wc_draw (by kernel_rfl) (by kernel_rfl) (by decide +kernel) ?_; intro w0 hw0 hm0; (try simp only [List.append_eq, List.cons_append, List.nil_append])) | (refine auP ?_) | ((refine auR ?_); clear hK K) | (refine auR ?_) | ((with_reducible refine hK _ _ ?_); clear hK K) | fail)
  first | refine end_ret (ResP.cell rfl ld_whole ResP.nil) ?_ | refine end_normal (ResP.cell rfl ld_whole ResP.nil) ?_
  first | rfl | (show _ = _; rfl) | (simp only [tupV, *]; done)
set_option maxHeartbeats 4000000 in
theorem low_f (a : Nat) (ha : a < T256) (w : World) : Calls Tryd.prog 69 [nu a].toArray w (Ret (nu (a % PP)) w) := by
  have hT := PP_T
  have hP := PP_pos
  rw [← sinkP_two ha]
  refine fn_ret (N := _) Tryd.func69 rfl Tryd.ntmps69 Tryd.results69 (by simp) ?_
  simp only [initS, Nat.reduceAdd, Nat.zero_add]
  repeat' (first | (refine wlB ?_) | (refine efZCnn ?_; intro n hn) | (refine efBnn ?_; intro n hn) | (refine efB ?_) | (refine wl_skip rfl rfl ?_) | (refine wdV ?_) | (refine wdB ?_) | (refine wdE ?_) | (refine wd_allocC hm0 rfl rfl rfl ?_; intro n hn hn0) | (refine wd_alloc hm0 rfl rfl rfl ?_; intro n hn hn0) | (refine wdT ?_) | (refine wd_skip rfl rfl ?_) | ((with_reducible refine seld_nil ?_); refine wd_nil hm0 ?_; clear hm0 hw0) | ((with_reducible refine wc_seq ?_); intro K hK) | (refine auC ?_) | (refine wc_cond rfl (fun hc => ?_) (fun hc => ?_)) | (refine wc_draw (by kernel_rfl) (by kernel_rfl) (by decide +kernel) ?_; intro w0 hw0 hm0; (try simp only [List.append_eq, List.cons_append, List.nil_append])) | (refine auP ?_) | ((refine auR ?_); clear hK K) | (refine auR ?_) | ((with_reducible refine hK _ _ ?_); clear hK K) | fail)
  rename_i n1 g1
  obtain ⟨n2, rfl⟩ : ∃ n2, n2 = n := ⟨n, rfl⟩
  refine wc_loop (σ := Nat) (fun i => [(1, ptr n1), (2, ptr n2), (5, .int .i64 (i : Int))]) (fun i => [(n2, (numC 0, 29)), (n1, (numC (sinkP a i), 29))])
    (fun i => i ≤ 2) (fun i => 2 - i) 0 (Nat.zero_le _) (Fits.of ⟨rfl, rfl, rfl, trivial⟩ (by
      repeat (first | exact SubL.nil | exact SubL.refl _ | refine SubL.keep ?_ | exact SubL.headA _ _ | refine SubL.keepA ?_ _ | refine SubL.skip ?_ | refine SubL.skipA ?_ _)) rfl) ?_
  intro i hi
  by_cases hlt : i < 2
  · have t1 : decide ((i : Int) < 2) = true := decide_eq_true (by omega)
    have hi1 : IntKind.i64.wrap ((i : Int) + 1) = ((i + 1 : Nat) : Int) := wrap_i64 _ (by omega) (by omega)
    have hx := sinkP_lt ha i
    have P := p_f
    have Sc := sub_nu (sinkP a i) PP hx (by omega)
    have e : sinkP a (i + 1) = if PP ≤ sinkP a i then sinkP a i - PP else sinkP a i := rfl
    by_cases h : PP ≤ sinkP a i
    · rw [if_pos h] at e
      rw [if_neg (by omega), show (sinkP a i + T256 - PP) % T256 = sinkP a i - PP by rw [show sinkP a i + T256 - PP = (sinkP a i - PP) + T256 by omega, Nat.add_mod_right, Nat.mod_eq_of_lt (by omega)], ← e] at Sc
      clear e h hx hi ha hT hP
      repeat' (first | (refine wlB ?_) | (refine efZCnn ?_; intro n hn) | (refine efBnn ?_; intro n hn) | (refine efB ?_) | (refine wl_skip rfl rfl ?_) | (refine wdV ?_) | (refine wdB ?_) | ((with_reducible refine seld_call ?_); refine wd_rd hm0 rfl rfl rfl rfl (rd_call rfl rfl rfl (fun w hm => by with_reducible first | exact P w | exact Sc w)) ?_) | (refine wdE ?_) | (refine wd_allocC hm0 rfl rfl rfl ?_; intro n hn hn0) | (refine wd_alloc hm0 rfl rfl rfl ?_; intro n hn hn0) | (refine wdT ?_) | (refine wd_skip rfl rfl ?_) | ((with_reducible refine seld_nil ?_); refine wd_nil hm0 ?_; clear hm0 hw0) | ((with_reducible refine wc_seq ?_); intro K hK) | (refine auC ?_) | (refine wc_cond rfl (fun hc => ?_) (fun hc => ?_)) | (refine wc_draw (by kernel_rfl) (by kernel_rfl) (by decide +kernel) ?_; intro w0 hw0 hm0; (try simp only [List.append_eq, List.cons_append, List.nil_append])) | (refine auP ?_) | ((refine auR ?_); clear hK K) | (refine auR ?_) | ((with_reducible refine hK _ _ ?_); clear hK K) | fail)
      exact ⟨i + 1, hlt, by omega, Fits.of ⟨rfl, rfl, rfl, trivial⟩ (by
        repeat (first | exact SubL.nil | exact SubL.refl _ | refine SubL.keep ?_ | exact SubL.headA _ _ | refine SubL.keepA ?_ _ | refine SubL.skip ?_ | refine SubL.skipA ?_ _)) rfl⟩
    · rw [if_neg h] at e
      rw [if_pos (by omega)] at Sc
      generalize (sinkP a i + T256 - PP) % T256 = z at Sc
      clear h hx hi ha hT hP
      repeat' (first | (refine wlB ?_) | (refine efZCnn ?_; intro n hn) | (refine efBnn ?_; intro n hn) | (refine efB ?_) | (refine wl_skip rfl rfl ?_) | (refine wdV ?_) | (refine wdB ?_) | ((with_reducible refine seld_call ?_); refine wd_rd hm0 rfl rfl rfl rfl (rd_call rfl rfl rfl (fun w hm => by with_reducible first | exact P w | exact Sc w)) ?_) | (refine wdE ?_) | (refine wd_allocC hm0 rfl rfl rfl ?_; intro n hn hn0) | (refine wd_alloc hm0 rfl rfl rfl ?_; intro n hn hn0) | (refine wdT ?_) | (refine wd_skip rfl rfl ?_) | ((with_reducible refine seld_nil ?_); refine wd_nil hm0 ?_; clear hm0 hw0) | ((with_reducible refine wc_seq ?_); intro K hK) | (refine auC ?_) | (refine wc_cond rfl (fun hc => ?_) (fun hc => ?_)) | (refine wc_draw (by kernel_rfl) (by kernel_rfl) (by decide +kernel) ?_; intro w0 hw0 hm0; (try simp only [List.append_eq, List.cons_append, List.nil_append])) | (refine auP ?_) | ((refine auR ?_); clear hK K) | (refine auR ?_) | ((with_reducible refine hK _ _ ?_); clear hK K) | fail)
      exact ⟨i + 1, hlt, by omega, Fits.of ⟨rfl, rfl, rfl, trivial⟩ (by
        rw [e]
        repeat (first | exact SubL.nil | exact SubL.refl _ | refine SubL.keep ?_ | exact SubL.headA _ _ | refine SubL.keepA ?_ _ | refine SubL.skip ?_ | refine SubL.skipA ?_ _)) rfl⟩
  · obtain rfl : i = 2 := by omega
    have t1 : decide (((2 : Nat) : Int) < 2) = false := rfl
    clear hi hlt ha hT hP
    repeat' (first | (refine wlB ?_) | (refine efBnn ?_; intro n hn) | (refine efB ?_) | (refine wl_skip rfl rfl ?_) | (refine wdV ?_) | (refine wdB ?_) | (refine wdE ?_) | (refine wd_alloc hm0 rfl rfl rfl ?_; intro n hn hn0) | (refine wdT ?_) | (refine wd_skip rfl rfl ?_) | ((with_reducible refine seld_nil ?_); refine wd_nil hm0 ?_; clear hm0 hw0) | ((with_reducible refine wc_seq ?_); intro K hK) | (refine auC ?_) | (refine wc_cond rfl (fun hc => ?_) (fun hc => ?_)) | (refine wc_draw (by kernel_rfl) (by kernel_rfl) (by decide +kernel) ?_; intro w0 hw0 hm0; (try simp only [List.append_eq, List.cons_append, List.nil_append])) | (refine auP ?_) | ((refine auR ?_); clear hK K) | (refine auR ?_) | ((with_reducible refine hK _ _ ?_); clear hK K) | fail)
    first | refine end_ret (ResP.cell rfl ld_whole ResP.nil) ?_ | refine end_normal (ResP.cell rfl ld_whole ResP.nil) ?_
    first | rfl | (show _ = _; rfl) | (simp only [tupV, *]; done)
set_option maxHeartbeats 4000000 in
theorem add_f (a b : Nat) (ha : a < T256) (hb : b < T256) (w : World) : Calls Tryd.prog 72 [nu a, nu b].toArray w (Ret (nu ((a + b) % PP)) w) := by
  have hT := PP_T
  have hP := PP_pos
  have h1 : a % PP < PP := Nat.mod_lt _ (by omega)
  have h2 : b % PP < PP := Nat.mod_lt _ (by omega)
  have L1 := low_f a ha
  have L2 := low_f b hb
  have A := add_nu (a % PP) (b % PP) (by omega) (by omega)
  rw [Nat.mod_eq_of_lt (show a % PP + b % PP < T256 by omega)] at A
  have L3 := low_f (a % PP + b % PP) (by omega)
  rw [← Nat.add_mod] at L3
  clear hT hP h1 h2 ha hb
  refine fn_ret (N := _) Tryd.func72 rfl Tryd.ntmps72 Tryd.results72 (by simp) ?_
  simp only [initS, Nat.reduceAdd, Nat.zero_add]
  repeat' (first | (refine wlB ?_) | ((with_reducible refine sel_call ?_); refine wl_rd rfl rfl (rd_call rfl rfl rfl (fun w hm => by with_reducible first | exact L1 w | exact L2 w | exact A w | exact L3 w)) ?_) | (refine wlE ?_) | (refine efZCnn ?_; intro n hn) | (refine efBnn ?_; intro n hn) | (refine efB ?_) | (refine wl_skip rfl rfl ?_) | (refine wdV ?_) | (refine wdB ?_) | ((with_reducible refine seld_call ?_); refine wd_rd hm0 rfl rfl rfl rfl (rd_call rfl rfl rfl (fun w hm => by with_reducible first | exact L1 w | exact L2 w | exact A w | exact L3 w)) ?_) | (refine wdE ?_) | (refine wd_allocC hm0 rfl rfl rfl ?_; intro n hn hn0) | (refine wd_alloc hm0 rfl rfl rfl ?_; intro n hn hn0) | (refine wdT ?_) | (refine wd_skip rfl rfl ?_) | ((with_reducible refine seld_nil ?_); refine wd_nil hm0 ?_; clear hm0 hw0) | ((with_reducible refine wc_seq ?_); intro K hK) | (refine auC ?_) | (refine wc_cond rfl (fun hc => ?_) (fun hc => ?_)) | (refine wc_draw (by kernel_rfl) (by kernel_rfl) (by decide +kernel) ?_; intro w0 hw0 hm0; (try simp only [List.append_eq, List.cons_append, List.nil_append])) | (refine auP ?_) | ((refine auR ?_); clear hK K) | (refine auR ?_) | ((with_reducible refine hK _ _ ?_); clear hK K) | fail)
  first | refine end_ret (ResP.cell rfl ld_whole ResP.nil) ?_ | refine end_normal (ResP.cell rfl ld_whole ResP.nil) ?_
  first | rfl | (show _ = _; rfl) | (simp only [tupV, *]; done)
set_option maxHeartbeats 4000000 in
theorem sub_f (a b : Nat) (ha : a < T256) (hb : b < T256) (w : World) : Calls Tryd.prog 71 [nu a, nu b].toArray w (Ret (nu ((a % PP + PP - b % PP) % PP)) w) := by
  have hT := PP_T
  have hP := PP_pos
  have h1 : a % PP < PP := Nat.mod_lt _ (by omega)
  have h2 : b % PP < PP := Nat.mod_lt _ (by omega)
  have L1 := low_f a ha
  have L2 := low_f b hb
  have P := p_f
  have Sc := sub_nu (a % PP) (b % PP) (by omega) (by omega)
  by_cases h : a % PP < b % PP
  · rw [if_pos h, Nat.mod_eq_of_lt (show a % PP + T256 - b % PP < T256 by omega)] at Sc
    have A := add_nu (a % PP + T256 - b % PP) PP (by omega) (by omega)
    rw [show (a % PP + T256 - b % PP + PP) % T256 = a % PP + PP - b % PP by rw [show a % PP + T256 - b % PP + PP = (a % PP + PP - b % PP) + T256 by omega, Nat.add_mod_right, Nat.mod_eq_of_lt (by omega)]] at A
    rw [Nat.mod_eq_of_lt (show a % PP + PP - b % PP < PP by omega)]
    clear hT hP h1 h2 ha hb h
    refine fn_ret (N := _) Tryd.func71 rfl Tryd.ntmps71 Tryd.results71 (by simp) ?_
    simp only [initS, Nat.reduceAdd, Nat.zero_add]
    repeat' (first | (refine wlB ?_) | (refine efZCnn ?_; intro n hn) | (refine efBnn ?_; intro n hn) | (refine efB ?_) | (refine wl_skip rfl rfl ?_) | (refine wdV ?_) | (refine wdB ?_) | ((with_reducible refine seld_call ?_); refine wd_rd hm0 rfl rfl rfl rfl (rd_call rfl rfl rfl (fun w hm => by with_reducible first | exact L1 w | exact L2 w | exact P w | exact Sc w | exact A w)) ?_) | (refine wdE ?_) | (refine wd_allocC hm0 rfl rfl rfl ?_; intro n hn hn0) | (refine wd_alloc hm0 rfl rfl rfl ?_; intro n hn hn0) | (refine wdT ?_) | (refine wd_skip rfl rfl ?_) | ((with_reducible refine seld_nil ?_); refine wd_nil hm0 ?_; clear hm0 hw0) | ((with_reducible refine wc_seq ?_); intro K hK) | (refine auC ?_) | (refine wc_cond rfl (fun hc => ?_) (fun hc => ?_)) | (refine wc_draw (by kernel_rfl) (by kernel_rfl) (by decide +kernel) ?_; intro w0 hw0 hm0; (try simp only [List.append_eq, List.cons_append, List.nil_append])) | (refine auP ?_) | ((refine auR ?_); clear hK K) | (refine auR ?_) | ((with_reducible refine hK _ _ ?_); clear hK K) | fail)
    first | refine end_ret (ResP.cell rfl ld_whole ResP.nil) ?_ | refine end_normal (ResP.cell rfl ld_whole ResP.nil) ?_
    first | rfl | (show _ = _; rfl) | (simp only [tupV, *]; done)
  · have e : (a % PP + T256 - b % PP) % T256 = (a % PP + PP - b % PP) % PP := by
      rw [show a % PP + T256 - b % PP = (a % PP - b % PP) + T256 by omega, Nat.add_mod_right, Nat.mod_eq_of_lt (show a % PP - b % PP < T256 by omega), show a % PP + PP - b % PP = (a % PP - b % PP) + PP by omega, Nat.add_mod_right, Nat.mod_eq_of_lt (show a % PP - b % PP < PP by omega)]
    rw [if_neg h, e] at Sc
    clear hT hP h1 h2 ha hb h e
    refine fn_ret (N := _) Tryd.func71 rfl Tryd.ntmps71 Tryd.results71 (by simp) ?_
    simp only [initS, Nat.reduceAdd, Nat.zero_add]
    repeat' (first | (refine wlB ?_) | (refine efZCnn ?_; intro n hn) | (refine efBnn ?_; intro n hn) | (refine efB ?_) | (refine wl_skip rfl rfl ?_) | (refine wdV ?_) | (refine wdB ?_) | ((with_reducible refine seld_call ?_); refine wd_rd hm0 rfl rfl rfl rfl (rd_call rfl rfl rfl (fun w hm => by with_reducible first | exact L1 w | exact L2 w | exact P w | exact Sc w)) ?_) | (refine wdE ?_) | (refine wd_allocC hm0 rfl rfl rfl ?_; intro n hn hn0) | (refine wd_alloc hm0 rfl rfl rfl ?_; intro n hn hn0) | (refine wdT ?_) | (refine wd_skip rfl rfl ?_) | ((with_reducible refine seld_nil ?_); refine wd_nil hm0 ?_; clear hm0 hw0) | ((with_reducible refine wc_seq ?_); intro K hK) | (refine auC ?_) | (refine wc_cond rfl (fun hc => ?_) (fun hc => ?_)) | (refine wc_draw (by kernel_rfl) (by kernel_rfl) (by decide +kernel) ?_; intro w0 hw0 hm0; (try simp only [List.append_eq, List.cons_append, List.nil_append])) | (refine auP ?_) | ((refine auR ?_); clear hK K) | (refine auR ?_) | ((with_reducible refine hK _ _ ?_); clear hK K) | fail)
    first | refine end_ret (ResP.cell rfl ld_whole ResP.nil) ?_ | refine end_normal (ResP.cell rfl ld_whole ResP.nil) ?_
    first | rfl | (show _ = _; rfl) | (simp only [tupV, *]; done)
end Go.Proofs.YtkbgkobbadjpnaaDoor
