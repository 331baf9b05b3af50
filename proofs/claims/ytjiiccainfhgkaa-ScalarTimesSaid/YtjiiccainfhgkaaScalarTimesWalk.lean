/- ScalarTimes: the walk. -/
import Derived.Test.YtjiiccainfhgkaaPt
import Derived.Test.YtjiiccainfhgkaaOrderLaw
namespace Go.Proofs.Ytjiiccainfhgkaa.ScalarTimesWalk
open Go.RowKit
set_option linter.unusedVariables false
set_option linter.unusedSimpArgs false
set_option maxRecDepth 8000
theorem sneg_sum (m : Nat) : slow (sneg m + m) = 0 := by
  rw [slow_def, sneg_def, Nat.mod_add_mod]
  have h := Nat.mod_lt m SL_pos
  have e : SL - m % SL + m = SL * (1 + m / SL) := by
    have := Nat.div_add_mod m SL
    rw [Nat.mul_add, Nat.mul_one]
    omega
  rw [e, Nat.mul_mod_right]
theorem slow_slow (m : Nat) : slow (slow m) = slow m := by rw [slow_def, slow_def, Nat.mod_mod]
theorem times_smul (m n : Nat) : Pt.base.times (smul m n) = (Pt.base.times n).times m := by
  rw [pt_times_times base_on, base_low (m * n), slow_def, smul_def]
theorem times_sadd (m n : Nat) : Pt.base.times (sadd m n) = (Pt.base.times m).add (Pt.base.times n) := by
  rw [← pt_times_add base_on, base_low (m + n), slow_def, sadd_def]
theorem times_sneg (m : Nat) : (Pt.base.times (sneg m)).add (Pt.base.times m) = Pt.zero := by
  rw [← pt_times_add base_on, base_iff]
  exact sneg_sum m
set_option maxHeartbeats 1000000 in
theorem scalars_k (w : World) : Calls Try.prog 48 [].toArray w (Ret (.bool true) w) := by
  have AC := addS 1 2 (by decide) (by decide)
  rw [show sadd 1 2 = 3 by rw [sadd_def]; decide +kernel] at AC
  have q1 := eqNu (decide_eq_true (rfl : 3 = 3)) (show 3 < T256 by decide) (show 3 < T256 by decide)
  refine fn_ret (N := _) Try.func48 rfl Try.ntmps48 Try.results48 (by simp) ?_
  simp only [initS, Nat.reduceAdd, Nat.zero_add]
  repeat' (first | (with_reducible refine then_normal ?_) | ((with_reducible refine then_ret ?_); clear hK K) | ((with_reducible refine then_exit ?_); clear hK K) | (with_reducible refine then_exit ?_) | (with_reducible refine then_ret ?_) | (with_reducible refine inB_normal ?_) | (with_reducible refine inB_ret ?_) | (with_reducible refine inB_here ?_) | (with_reducible refine inB_out (by decide) ?_) | ((with_reducible refine hK _ _ ?_); clear hK K) | ((with_reducible refine sel_assign ?_); first | refine wl_rd rfl rfl (RdV.rd (rd_assign rfl rfl)) ?_) | ((with_reducible refine sel_b_eql ?_); first | refine wl_rd rfl rfl (RdV.rd (rd_cm rfl rfl rfl rfl)) ?_ | refine wl_rd rfl rfl (RdV.rd (rd_eqlB rfl rfl rfl (by first | with_reducible assumption | rfl))) ?_ | refine wl_rd rfl rfl (RdV.rd (rd_eqlV rfl rfl rfl (by with_reducible exact q1))) ?_) | ((with_reducible refine sel_build ?_); first | refine wl_rd rfl rfl (RdV.rd (rd_cast (rd_buildA rfl rfl) (by first | exact nu_l0 | exact nu_l1 | exact nu_l2 | exact nu_l3 | exact nu_l5 | exact nu_l7 | exact nu_l8 | exact nu_l9 | exact nu_l19 | exact nu_l38 | exact nu_l121665 | exact wi_l0 | exact wi_l3 | exact wi_l7 | exact wi_l15))) ?_ | refine wl_rd rfl rfl (RdV.rd (rd_buildA rfl rfl)) ?_ | refine wl_rd rfl rfl (RdV.rd (rd_buildS rfl rfl)) ?_) | ((with_reducible refine sel_call ?_); first | refine wl_rd rfl rfl (rd_call rfl rfl rfl (fun w _ => by with_reducible exact AC w)) ?_ | refine wl_rd rfl rfl (RdV.rd (rd_lenS rfl rfl rfl rfl rfl)) ?_) | (refine wl_skip rfl rfl ?_) | ((with_reducible refine wc_seq ?_); intro K hK) | ((with_reducible refine wc_region ?_); (try simp only [List.append_eq, List.cons_append, List.nil_append])) | (with_reducible refine wc_block ?_) | (with_reducible refine wc_skip ?_) | (with_reducible refine wc_exit ?_) | (with_reducible refine wc_ret ?_) | (with_reducible refine wc_label ?_) | ((with_reducible refine sel_cond ?_); first | refine wc_true rfl ?_ | refine wc_false rfl ?_ | refine wc_cond rfl (fun hc => ?_) (fun hc => ?_)) | (with_reducible refine wl_nil ?_))
  first | refine end_ret (ResP.tmp rfl ResP.nil) ?_ | refine end_normal (ResP.tmp rfl ResP.nil) ?_
  first | rfl | (show _ = _; rfl)
set_option maxHeartbeats 4000000 in
theorem walk (m : Nat) (hm : m < T256) (j : Nat) (hj : j < T256) (w : World) :
    Calls Try.prog 16 #[num m, num j] w (Ret (.bool true) w) := by
  rw [nu_num, nu_num]
  have SK := scalars_k
  have BC := base_c
  have ZP := zero_c
  have M := mulS m j hm hj
  have T1 := times_k (smul m j) (smul_lt m j) base_on
  rw [times_smul] at T1
  have T2 := times_k j hj base_on
  have T3 := times_k m hm (times_on base_on j)
  have A := addS m j hm hj
  have T4 := times_k (sadd m j) (sadd_lt m j) base_on
  rw [times_sadd] at T4
  have T5 := times_k m hm base_on
  have S1 := sum_k (times_on base_on m) (times_on base_on j)
  have G := negS m hm
  have T6 := times_k (sneg m) (sneg_lt m) base_on
  have S2 := sum_k (times_on base_on (sneg m)) (times_on base_on m)
  rw [times_sneg] at S2
  have q1 := eq_pt_yes (times_red (Pt.base.times j) m).lt (rfl : (Pt.base.times j).times m = (Pt.base.times j).times m)
  have q2 := eq_pt_yes (add_red (Pt.base.times m) (Pt.base.times j)).lt (rfl : (Pt.base.times m).add (Pt.base.times j) = (Pt.base.times m).add (Pt.base.times j))
  have q0 := eq_pt_yes Pt.zero_lt (rfl : Pt.zero = Pt.zero)
  clear hm hj
  generalize (Pt.base.times j).times m = x1 at *
  generalize (Pt.base.times m).add (Pt.base.times j) = x2 at *
  generalize Pt.base.times (sneg m) = x3 at *
  generalize Pt.base.times m = x4 at *
  generalize Pt.base.times j = x5 at *
  generalize smul m j = y1 at *
  generalize sadd m j = y2 at *
  generalize sneg m = y3 at *
  generalize Pt.base = bs at *
  generalize Pt.zero = zr at *
  refine fn_ret (N := _) Try.func16 rfl Try.ntmps16 Try.results16 (by simp) ?_
  simp only [initS, Nat.reduceAdd, Nat.zero_add]
  repeat' (first | (with_reducible refine then_normal ?_) | ((with_reducible refine then_ret ?_); clear hK K) | ((with_reducible refine then_exit ?_); clear hK K) | (with_reducible refine then_exit ?_) | (with_reducible refine then_ret ?_) | (with_reducible refine inB_normal ?_) | (with_reducible refine inB_ret ?_) | (with_reducible refine inB_here ?_) | (with_reducible refine inB_out (by decide) ?_) | ((with_reducible refine hK _ _ ?_); clear hK K) | ((with_reducible refine sel_store ?_); first | refine wl_store rfl rfl (sv_num0 rfl rfl rfl) ?_ | refine wl_store rfl rfl (sv_num4 rfl rfl rfl) ?_ | refine wl_store rfl rfl (sv_whole rfl rfl rfl) ?_ | refine wl_store rfl rfl (sv_cell rfl rfl rfl rfl) ?_ | refine wl_store rfl rfl (sv_row rfl rfl rfl rfl) ?_) | ((with_reducible refine sel_assign ?_); first | refine wl_rd rfl rfl (RdV.rd (rd_assign rfl rfl)) ?_) | ((with_reducible refine sel_unop ?_); first | refine wl_rd rfl rfl (RdV.rd (rd_not rfl rfl)) ?_ | refine wl_rd rfl rfl (RdV.rd (rd_neg rfl rfl)) ?_ | refine wl_rd rfl rfl (RdV.rd (rd_inv rfl rfl)) ?_) | ((with_reducible refine sel_alloc ?_); first | (refine wl_new rfl rfl (mk_allocC rfl) ?_; intro n hn) | (refine wl_new rfl rfl (mk_alloc rfl) ?_; intro n hn)) | ((with_reducible refine sel_call ?_); first | refine wl_rd rfl rfl (rd_call rfl rfl rfl (fun w _ => by with_reducible exact SK w)) ?_ | refine wl_rd rfl rfl (rd_call rfl rfl rfl (fun w _ => by with_reducible exact BC w)) ?_ | refine wl_rd rfl rfl (rd_call rfl rfl rfl (fun w _ => by with_reducible exact ZP w)) ?_ | refine wl_rd rfl rfl (rd_call rfl rfl rfl (fun w _ => by with_reducible exact M w)) ?_ | refine wl_rd rfl rfl (rd_call rfl rfl rfl (fun w _ => by with_reducible exact T1 w)) ?_ | refine wl_rd rfl rfl (rd_call rfl rfl rfl (fun w _ => by with_reducible exact T2 w)) ?_ | refine wl_rd rfl rfl (rd_call rfl rfl rfl (fun w _ => by with_reducible exact T3 w)) ?_ | refine wl_rd rfl rfl (rd_call rfl rfl rfl (fun w _ => by with_reducible exact A w)) ?_ | refine wl_rd rfl rfl (rd_call rfl rfl rfl (fun w _ => by with_reducible exact T4 w)) ?_ | refine wl_rd rfl rfl (rd_call rfl rfl rfl (fun w _ => by with_reducible exact T5 w)) ?_ | refine wl_rd rfl rfl (rd_call rfl rfl rfl (fun w _ => by with_reducible exact S1 w)) ?_ | refine wl_rd rfl rfl (rd_call rfl rfl rfl (fun w _ => by with_reducible exact G w)) ?_ | refine wl_rd rfl rfl (rd_call rfl rfl rfl (fun w _ => by with_reducible exact T6 w)) ?_ | refine wl_rd rfl rfl (rd_call rfl rfl rfl (fun w _ => by with_reducible exact S2 w)) ?_ | refine wl_rd rfl rfl (RdV.rd (rd_lenS rfl rfl rfl rfl rfl)) ?_) | ((with_reducible refine sel_box ?_); first | (refine wl_new rfl rfl (mk_box rfl rfl) ?_; intro n hn)) | (refine wl_skip rfl rfl ?_) | ((with_reducible refine seld_load ?_); first | refine wd_rd hm0 rfl rfl rfl rfl (RdV.rd (rd_load rfl rfl ld_num)) ?_ | refine wd_rd hm0 rfl rfl rfl rfl (RdV.rd (rd_load rfl rfl (ld_whole))) ?_ | refine wd_rd hm0 rfl rfl rfl rfl (RdV.rd (rd_load rfl rfl (ld_cell))) ?_ | refine wd_rd hm0 rfl rfl rfl rfl (RdV.rd (rd_load rfl rfl (ld_row))) ?_) | ((with_reducible refine seld_pick ?_); first | refine wd_rd hm0 rfl rfl rfl rfl (RdV.rd (rd_pick rfl rfl rfl rfl rfl)) ?_) | ((with_reducible refine seld_b_eql ?_); first | refine wd_rd hm0 rfl rfl rfl rfl (RdV.rd (rd_cm rfl rfl rfl rfl)) ?_ | refine wd_rd hm0 rfl rfl rfl rfl (RdV.rd (rd_eqlB rfl rfl rfl (by first | with_reducible assumption | rfl))) ?_ | refine wd_rd hm0 rfl rfl rfl rfl (RdV.rd (rd_eqlV rfl rfl rfl (by with_reducible exact q1))) ?_ | refine wd_rd hm0 rfl rfl rfl rfl (RdV.rd (rd_eqlV rfl rfl rfl (by with_reducible exact q2))) ?_ | refine wd_rd hm0 rfl rfl rfl rfl (RdV.rd (rd_eqlV rfl rfl rfl (by with_reducible exact q0))) ?_) | ((with_reducible refine seld_call ?_); first | refine wd_rd hm0 rfl rfl rfl rfl (rd_call rfl rfl rfl (fun w _ => by with_reducible exact SK w)) ?_ | refine wd_rd hm0 rfl rfl rfl rfl (rd_call rfl rfl rfl (fun w _ => by with_reducible exact BC w)) ?_ | refine wd_rd hm0 rfl rfl rfl rfl (rd_call rfl rfl rfl (fun w _ => by with_reducible exact ZP w)) ?_ | refine wd_rd hm0 rfl rfl rfl rfl (rd_call rfl rfl rfl (fun w _ => by with_reducible exact M w)) ?_ | refine wd_rd hm0 rfl rfl rfl rfl (rd_call rfl rfl rfl (fun w _ => by with_reducible exact T1 w)) ?_ | refine wd_rd hm0 rfl rfl rfl rfl (rd_call rfl rfl rfl (fun w _ => by with_reducible exact T2 w)) ?_ | refine wd_rd hm0 rfl rfl rfl rfl (rd_call rfl rfl rfl (fun w _ => by with_reducible exact T3 w)) ?_ | refine wd_rd hm0 rfl rfl rfl rfl (rd_call rfl rfl rfl (fun w _ => by with_reducible exact A w)) ?_ | refine wd_rd hm0 rfl rfl rfl rfl (rd_call rfl rfl rfl (fun w _ => by with_reducible exact T4 w)) ?_ | refine wd_rd hm0 rfl rfl rfl rfl (rd_call rfl rfl rfl (fun w _ => by with_reducible exact T5 w)) ?_ | refine wd_rd hm0 rfl rfl rfl rfl (rd_call rfl rfl rfl (fun w _ => by with_reducible exact S1 w)) ?_ | refine wd_rd hm0 rfl rfl rfl rfl (rd_call rfl rfl rfl (fun w _ => by with_reducible exact G w)) ?_ | refine wd_rd hm0 rfl rfl rfl rfl (rd_call rfl rfl rfl (fun w _ => by with_reducible exact T6 w)) ?_ | refine wd_rd hm0 rfl rfl rfl rfl (rd_call rfl rfl rfl (fun w _ => by with_reducible exact S2 w)) ?_ | refine wd_rd hm0 rfl rfl rfl rfl (RdV.rd (rd_lenS rfl rfl rfl rfl rfl)) ?_) | ((with_reducible refine seld_move ?_); first | refine wd_move rfl rfl rfl rfl ?_) | ((with_reducible refine seld_assign ?_); first | refine wd_assign rfl rfl rfl rfl ?_) | (refine wd_skip rfl rfl ?_) | ((with_reducible refine seld_nil ?_); refine wd_nil hm0 ?_; clear hm0 hw0) | ((with_reducible refine wc_seq ?_); intro K hK) | ((with_reducible refine wc_region ?_); (try simp only [List.append_eq, List.cons_append, List.nil_append])) | (with_reducible refine wc_block ?_) | (with_reducible refine wc_skip ?_) | (with_reducible refine wc_exit ?_) | (with_reducible refine wc_ret ?_) | (with_reducible refine wc_label ?_) | ((with_reducible refine sel_cond ?_); first | refine wc_true rfl ?_ | refine wc_false rfl ?_ | refine wc_cond rfl (fun hc => ?_) (fun hc => ?_)) | (with_reducible refine wl_nil ?_) | (refine wc_draw (by kernel_rfl) (by kernel_rfl) (by decide +kernel) ?_; intro w0 hw0 hm0; (try simp only [List.append_eq, List.cons_append, List.nil_append])))
  first | refine end_ret (ResP.tmp rfl ResP.nil) ?_ | refine end_normal (ResP.tmp rfl ResP.nil) ?_
  first | rfl | (show _ = _; rfl)
end Go.Proofs.Ytjiiccainfhgkaa.ScalarTimesWalk
