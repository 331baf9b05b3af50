/- scalar: numbers modulo L. -/
import Derived.Test.YtglbnbdeoenilaaQuot
import Derived.Test.YtglbnbdeoenilaaNuW
import Derived.Test.YtglbnbdeoenilaaNuA
import Derived.Test.YtglbnbdeoenilaaNuLit
import Derived.Test.YtglbnbdeoenilaaEqWide
import Derived.Test.YtglbnbdeoenilaaFourVal
namespace Go.Proofs.Ytglbnbdeoenilaa
open Go.RowKit
set_option linter.unusedVariables false
set_option linter.unusedSimpArgs false
set_option maxRecDepth 100000
def SLn : Nat := 7237005577332262213973186563042994240857116359379907606001950938285454250989
def slow (a : Nat) : Nat := a % SLn
def sadd (a b : Nat) : Nat := (a + b) % SLn
def smul (a b : Nat) : Nat := a * b % SLn
def sneg (a : Nat) : Nat := (SLn - a % SLn) % SLn
theorem slow_def (a : Nat) : slow a = a % SLn := rfl
theorem sadd_def (a b : Nat) : sadd a b = (a + b) % SLn := rfl
theorem smul_def (a b : Nat) : smul a b = a * b % SLn := rfl
theorem sneg_def (a : Nat) : sneg a = (SLn - a % SLn) % SLn := rfl
theorem SL_pos : 0 < SLn := by decide
theorem SL_T : SLn < T256 := by decide +kernel
theorem SL_two : 2 * SLn < T256 := by decide +kernel
theorem slow_L (a : Nat) : slow a < SLn := Nat.mod_lt _ SL_pos
theorem sadd_L (a b : Nat) : sadd a b < SLn := Nat.mod_lt _ SL_pos
theorem smul_L (a b : Nat) : smul a b < SLn := Nat.mod_lt _ SL_pos
theorem sneg_L (a : Nat) : sneg a < SLn := Nat.mod_lt _ SL_pos
theorem slow_lt (a : Nat) : slow a < T256 := Nat.lt_trans (slow_L a) SL_T
theorem sadd_lt (a b : Nat) : sadd a b < T256 := Nat.lt_trans (sadd_L a b) SL_T
theorem smul_lt (a b : Nat) : smul a b < T256 := Nat.lt_trans (smul_L a b) SL_T
theorem sneg_lt (a : Nat) : sneg a < T256 := Nat.lt_trans (sneg_L a) SL_T
attribute [irreducible] slow sadd smul sneg
theorem SL_val : Value.agg [.int .u64 6346243789798364141, .int .u64 1503914060200516822, .int .u64 0, .int .u64 1152921504606846976].toArray = nu SLn := four_val 6346243789798364141 1503914060200516822 0 1152921504606846976 SLn (by decide +kernel) (by decide +kernel) (by decide +kernel) (by decide +kernel)
theorem l_c (w : World) : Calls Try.prog 42 [].toArray w (Ret (nu SLn) w) := by
  refine fn_ret (N := _) Try.func42 rfl Try.ntmps42 Try.results42 (by simp) ?_
  simp only [initS, Nat.reduceAdd, Nat.zero_add]
  repeat' (first | (with_reducible refine then_normal ?_) | ((with_reducible refine then_ret ?_); clear hK K) | ((with_reducible refine then_exit ?_); clear hK K) | (with_reducible refine then_exit ?_) | (with_reducible refine then_ret ?_) | (with_reducible refine inB_normal ?_) | (with_reducible refine inB_ret ?_) | (with_reducible refine inB_here ?_) | (with_reducible refine inB_out (by decide) ?_) | ((with_reducible refine hK _ _ ?_); clear hK K) | ((with_reducible refine sel_alloc ?_); first | (refine wl_new rfl rfl (mk_allocC rfl) ?_; intro n hn) | (refine wl_new rfl rfl (mk_alloc rfl) ?_; intro n hn)) | ((with_reducible refine sel_build ?_); first | refine wl_rd rfl rfl (RdV.rd (rd_cast (rd_buildA rfl rfl) SL_val)) ?_ | refine wl_rd rfl rfl (RdV.rd (rd_buildA rfl rfl)) ?_ | refine wl_rd rfl rfl (RdV.rd (rd_buildS rfl rfl)) ?_) | ((with_reducible refine sel_store ?_); first | refine wl_store rfl rfl (sv_whole rfl rfl rfl) ?_ | refine wl_store rfl rfl (sv_cell rfl rfl rfl rfl) ?_ | refine wl_store rfl rfl (sv_row rfl rfl rfl rfl) ?_) | (refine wl_skip rfl rfl ?_) | ((with_reducible refine wc_seq ?_); intro K hK) | ((with_reducible refine wc_region ?_); (try simp only [List.append_eq, List.cons_append, List.nil_append])) | (with_reducible refine wc_block ?_) | (with_reducible refine wc_skip ?_) | (with_reducible refine wc_exit ?_) | (with_reducible refine wc_ret ?_) | (with_reducible refine wc_label ?_) | ((with_reducible refine sel_cond ?_); first | refine wc_true rfl ?_ | refine wc_false rfl ?_ | refine wc_cond rfl (fun hc => ?_) (fun hc => ?_)) | (with_reducible refine wl_nil ?_))
  first | refine end_ret (ResP.cell rfl ld_whole ResP.nil) ?_ | refine end_normal (ResP.cell rfl ld_whole ResP.nil) ?_
  first | rfl | (show _ = _; rfl) | (simp only [tupV, *]; done)
set_option maxHeartbeats 1000000 in
theorem reduceS (a : Nat) (ha : a < T512) (w : World) : Calls Try.prog 43 [wi a].toArray w (Ret (nu (slow a)) w) := by
  have LC := l_c
  have MC := mod_pos a SLn ha SL_T SL_pos
  rw [← slow_def] at MC
  clear ha
  generalize slow a = r at *
  refine fn_ret (N := _) Try.func43 rfl Try.ntmps43 Try.results43 (by simp) ?_
  simp only [initS, Nat.reduceAdd, Nat.zero_add]
  repeat' (first | (with_reducible refine then_normal ?_) | ((with_reducible refine then_ret ?_); clear hK K) | ((with_reducible refine then_exit ?_); clear hK K) | (with_reducible refine then_exit ?_) | (with_reducible refine then_ret ?_) | (with_reducible refine inB_normal ?_) | (with_reducible refine inB_ret ?_) | (with_reducible refine inB_here ?_) | (with_reducible refine inB_out (by decide) ?_) | ((with_reducible refine hK _ _ ?_); clear hK K) | ((with_reducible refine sel_load ?_); first | refine wl_rd rfl rfl (RdV.rd (rd_load rfl rfl (ld_whole))) ?_ | refine wl_rd rfl rfl (RdV.rd (rd_load rfl rfl (ld_cell))) ?_ | refine wl_rd rfl rfl (RdV.rd (rd_load rfl rfl (ld_row))) ?_) | ((with_reducible refine sel_alloc ?_); first | (refine wl_new rfl rfl (mk_allocC rfl) ?_; intro n hn) | (refine wl_new rfl rfl (mk_alloc rfl) ?_; intro n hn)) | ((with_reducible refine sel_box ?_); first | (refine wl_new rfl rfl (mk_box rfl rfl) ?_; intro n hn)) | ((with_reducible refine sel_store ?_); first | refine wl_store rfl rfl (sv_whole rfl rfl rfl) ?_ | refine wl_store rfl rfl (sv_cell rfl rfl rfl rfl) ?_ | refine wl_store rfl rfl (sv_row rfl rfl rfl rfl) ?_) | (refine wl_skip rfl rfl ?_) | ((with_reducible refine seld_load ?_); first | refine wd_rd hm0 rfl rfl rfl rfl (RdV.rd (rd_load rfl rfl (ld_whole))) ?_ | refine wd_rd hm0 rfl rfl rfl rfl (RdV.rd (rd_load rfl rfl (ld_cell))) ?_ | refine wd_rd hm0 rfl rfl rfl rfl (RdV.rd (rd_load rfl rfl (ld_row))) ?_) | ((with_reducible refine seld_alloc ?_); first | (refine wd_allocC hm0 rfl rfl rfl ?_; intro n hn hn0) | (refine wd_alloc hm0 rfl rfl rfl ?_; intro n hn hn0)) | ((with_reducible refine seld_call ?_); first | refine wd_rd hm0 rfl rfl rfl rfl (rd_call rfl rfl rfl (fun w _ => by with_reducible exact LC w)) ?_ | refine wd_rd hm0 rfl rfl rfl rfl (rd_call rfl rfl rfl (fun w _ => by with_reducible exact MC w)) ?_ | refine wd_rd hm0 rfl rfl rfl rfl (RdV.rd (rd_lenS rfl rfl rfl rfl rfl)) ?_) | ((with_reducible refine seld_move ?_); first | refine wd_move rfl rfl rfl rfl ?_) | ((with_reducible refine seld_assign ?_); first | refine wd_assign rfl rfl rfl rfl ?_) | ((with_reducible refine seld_extract ?_); first | refine wd_extract rfl rfl rfl rfl ?_) | ((with_reducible refine seld_store ?_); first | refine wd_row (clean' := true) hm0 rfl rfl rfl rfl rfl (fun _ => ⟨rfl, by assumption⟩) ?_ | refine wd_cell (clean' := true) hm0 rfl rfl rfl rfl rfl rfl (fun _ => ⟨rfl, by assumption⟩) ?_ | refine wd_row (clean' := false) hm0 rfl rfl rfl rfl rfl (by intro h; cases h) ?_ | refine wd_cell (clean' := false) hm0 rfl rfl rfl rfl rfl rfl (by intro h; cases h) ?_) | (refine wd_skip rfl rfl ?_) | ((with_reducible refine seld_nil ?_); refine wd_nil hm0 ?_; clear hm0 hw0) | ((with_reducible refine wc_seq ?_); intro K hK) | ((with_reducible refine wc_region ?_); (try simp only [List.append_eq, List.cons_append, List.nil_append])) | (with_reducible refine wc_block ?_) | (with_reducible refine wc_skip ?_) | (with_reducible refine wc_exit ?_) | (with_reducible refine wc_ret ?_) | (with_reducible refine wc_label ?_) | ((with_reducible refine sel_cond ?_); first | refine wc_true rfl ?_ | refine wc_false rfl ?_ | refine wc_cond rfl (fun hc => ?_) (fun hc => ?_)) | (with_reducible refine wl_nil ?_) | (refine wc_draw (by kernel_rfl) (by kernel_rfl) (by decide +kernel) ?_; intro w0 hw0 hm0; (try simp only [List.append_eq, List.cons_append, List.nil_append])))
  first | refine end_ret (ResP.cell rfl ld_whole ResP.nil) ?_ | refine end_normal (ResP.cell rfl ld_whole ResP.nil) ?_
  first | rfl | (show _ = _; rfl) | (simp only [tupV, *]; done)
set_option maxHeartbeats 1000000 in
theorem lowS (a : Nat) (ha : a < T256) (w : World) : Calls Try.prog 46 [nu a].toArray w (Ret (nu (slow a)) w) := by
  have WC := wide_nu a 0 ha
  rw [Nat.mul_zero, Nat.add_zero] at WC
  have RC := reduceS a (lt_T512 ha)
  clear ha
  generalize slow a = r at *
  refine fn_ret (N := _) Try.func46 rfl Try.ntmps46 Try.results46 (by simp) ?_
  simp only [initS, Nat.reduceAdd, Nat.zero_add]
  repeat' (first | (with_reducible refine then_normal ?_) | ((with_reducible refine then_ret ?_); clear hK K) | ((with_reducible refine then_exit ?_); clear hK K) | (with_reducible refine then_exit ?_) | (with_reducible refine then_ret ?_) | (with_reducible refine inB_normal ?_) | (with_reducible refine inB_ret ?_) | (with_reducible refine inB_here ?_) | (with_reducible refine inB_out (by decide) ?_) | ((with_reducible refine hK _ _ ?_); clear hK K) | ((with_reducible refine sel_load ?_); first | refine wl_rd rfl rfl (RdV.rd (rd_load rfl rfl (ld_whole))) ?_ | refine wl_rd rfl rfl (RdV.rd (rd_load rfl rfl (ld_cell))) ?_ | refine wl_rd rfl rfl (RdV.rd (rd_load rfl rfl (ld_row))) ?_) | ((with_reducible refine sel_alloc ?_); first | (refine wl_new rfl rfl (mk_allocC rfl) ?_; intro n hn) | (refine wl_new rfl rfl (mk_alloc rfl) ?_; intro n hn)) | ((with_reducible refine sel_build ?_); first | refine wl_rd rfl rfl (RdV.rd (rd_cast (rd_buildA rfl rfl) (by first | exact nu_l0 | exact nu_l1 | exact nu_l2 | exact nu_l3 | exact nu_l5 | exact nu_l7 | exact nu_l8 | exact nu_l9 | exact nu_l19 | exact nu_l38 | exact nu_l121665 | exact wi_l0 | exact wi_l3 | exact wi_l7 | exact wi_l15))) ?_ | refine wl_rd rfl rfl (RdV.rd (rd_buildA rfl rfl)) ?_ | refine wl_rd rfl rfl (RdV.rd (rd_buildS rfl rfl)) ?_) | ((with_reducible refine sel_call ?_); first | refine wl_rd rfl rfl (rd_call rfl rfl rfl (fun w _ => by with_reducible exact WC w)) ?_ | refine wl_rd rfl rfl (rd_call rfl rfl rfl (fun w _ => by with_reducible exact RC w)) ?_ | refine wl_rd rfl rfl (RdV.rd (rd_lenS rfl rfl rfl rfl rfl)) ?_) | ((with_reducible refine sel_box ?_); first | (refine wl_new rfl rfl (mk_box rfl rfl) ?_; intro n hn)) | ((with_reducible refine sel_store ?_); first | refine wl_store rfl rfl (sv_whole rfl rfl rfl) ?_ | refine wl_store rfl rfl (sv_cell rfl rfl rfl rfl) ?_ | refine wl_store rfl rfl (sv_row rfl rfl rfl rfl) ?_) | (refine wl_skip rfl rfl ?_) | ((with_reducible refine wc_seq ?_); intro K hK) | ((with_reducible refine wc_region ?_); (try simp only [List.append_eq, List.cons_append, List.nil_append])) | (with_reducible refine wc_block ?_) | (with_reducible refine wc_skip ?_) | (with_reducible refine wc_exit ?_) | (with_reducible refine wc_ret ?_) | (with_reducible refine wc_label ?_) | ((with_reducible refine sel_cond ?_); first | refine wc_true rfl ?_ | refine wc_false rfl ?_ | refine wc_cond rfl (fun hc => ?_) (fun hc => ?_)) | (with_reducible refine wl_nil ?_))
  first | refine end_ret (ResP.cell rfl ld_whole ResP.nil) ?_ | refine end_normal (ResP.cell rfl ld_whole ResP.nil) ?_
  first | rfl | (show _ = _; rfl) | (simp only [tupV, *]; done)
set_option maxHeartbeats 1000000 in
theorem mulS (a b : Nat) (ha : a < T256) (hb : b < T256) (w : World) : Calls Try.prog 28 [nu a, nu b].toArray w (Ret (nu (smul a b)) w) := by
  have MC := mul_nu a b ha hb
  have RC := reduceS (a * b) (show a * b < T512 from Nat.mul_lt_mul'' ha hb)
  rw [slow_def, ← smul_def] at RC
  clear ha hb
  generalize smul a b = r at *
  refine fn_ret (N := _) Try.func28 rfl Try.ntmps28 Try.results28 (by simp) ?_
  simp only [initS, Nat.reduceAdd, Nat.zero_add]
  repeat' (first | (with_reducible refine then_normal ?_) | ((with_reducible refine then_ret ?_); clear hK K) | ((with_reducible refine then_exit ?_); clear hK K) | (with_reducible refine then_exit ?_) | (with_reducible refine then_ret ?_) | (with_reducible refine inB_normal ?_) | (with_reducible refine inB_ret ?_) | (with_reducible refine inB_here ?_) | (with_reducible refine inB_out (by decide) ?_) | ((with_reducible refine hK _ _ ?_); clear hK K) | ((with_reducible refine sel_load ?_); first | refine wl_rd rfl rfl (RdV.rd (rd_load rfl rfl (ld_whole))) ?_ | refine wl_rd rfl rfl (RdV.rd (rd_load rfl rfl (ld_cell))) ?_ | refine wl_rd rfl rfl (RdV.rd (rd_load rfl rfl (ld_row))) ?_) | ((with_reducible refine sel_alloc ?_); first | (refine wl_new rfl rfl (mk_allocC rfl) ?_; intro n hn) | (refine wl_new rfl rfl (mk_alloc rfl) ?_; intro n hn)) | ((with_reducible refine sel_call ?_); first | refine wl_rd rfl rfl (rd_call rfl rfl rfl (fun w _ => by with_reducible exact MC w)) ?_ | refine wl_rd rfl rfl (rd_call rfl rfl rfl (fun w _ => by with_reducible exact RC w)) ?_ | refine wl_rd rfl rfl (RdV.rd (rd_lenS rfl rfl rfl rfl rfl)) ?_) | ((with_reducible refine sel_box ?_); first | (refine wl_new rfl rfl (mk_box rfl rfl) ?_; intro n hn)) | ((with_reducible refine sel_store ?_); first | refine wl_store rfl rfl (sv_whole rfl rfl rfl) ?_ | refine wl_store rfl rfl (sv_cell rfl rfl rfl rfl) ?_ | refine wl_store rfl rfl (sv_row rfl rfl rfl rfl) ?_) | (refine wl_skip rfl rfl ?_) | ((with_reducible refine wc_seq ?_); intro K hK) | ((with_reducible refine wc_region ?_); (try simp only [List.append_eq, List.cons_append, List.nil_append])) | (with_reducible refine wc_block ?_) | (with_reducible refine wc_skip ?_) | (with_reducible refine wc_exit ?_) | (with_reducible refine wc_ret ?_) | (with_reducible refine wc_label ?_) | ((with_reducible refine sel_cond ?_); first | refine wc_true rfl ?_ | refine wc_false rfl ?_ | refine wc_cond rfl (fun hc => ?_) (fun hc => ?_)) | (with_reducible refine wl_nil ?_))
  first | refine end_ret (ResP.cell rfl ld_whole ResP.nil) ?_ | refine end_normal (ResP.cell rfl ld_whole ResP.nil) ?_
  first | rfl | (show _ = _; rfl) | (simp only [tupV, *]; done)
set_option maxHeartbeats 1000000 in
theorem addS (a b : Nat) (ha : a < T256) (hb : b < T256) (w : World) : Calls Try.prog 29 [nu a, nu b].toArray w (Ret (nu (sadd a b)) w) := by
  have LA := lowS a ha
  have LB := lowS b hb
  have h1 := slow_L a
  have h2 := slow_L b
  have h3 := SL_two
  have AC := add_nu (slow a) (slow b) (slow_lt a) (slow_lt b)
  have RC := lowS (slow a + slow b) (by omega)
  have e : slow (slow a + slow b) = sadd a b := by
    rw [slow_def, slow_def, slow_def, sadd_def, ← Nat.add_mod]
  rw [e] at RC
  rw [Nat.mod_eq_of_lt (show slow a + slow b < T256 by omega)] at AC
  clear h1 h2 h3 e ha hb
  generalize slow a + slow b = s at *
  generalize slow a = x at *
  generalize slow b = y at *
  generalize sadd a b = r at *
  refine fn_ret (N := _) Try.func29 rfl Try.ntmps29 Try.results29 (by simp) ?_
  simp only [initS, Nat.reduceAdd, Nat.zero_add]
  repeat' (first | (with_reducible refine then_normal ?_) | ((with_reducible refine then_ret ?_); clear hK K) | ((with_reducible refine then_exit ?_); clear hK K) | (with_reducible refine then_exit ?_) | (with_reducible refine then_ret ?_) | (with_reducible refine inB_normal ?_) | (with_reducible refine inB_ret ?_) | (with_reducible refine inB_here ?_) | (with_reducible refine inB_out (by decide) ?_) | ((with_reducible refine hK _ _ ?_); clear hK K) | ((with_reducible refine sel_load ?_); first | refine wl_rd rfl rfl (RdV.rd (rd_load rfl rfl (ld_whole))) ?_ | refine wl_rd rfl rfl (RdV.rd (rd_load rfl rfl (ld_cell))) ?_ | refine wl_rd rfl rfl (RdV.rd (rd_load rfl rfl (ld_row))) ?_) | ((with_reducible refine sel_alloc ?_); first | (refine wl_new rfl rfl (mk_allocC rfl) ?_; intro n hn) | (refine wl_new rfl rfl (mk_alloc rfl) ?_; intro n hn)) | ((with_reducible refine sel_call ?_); first | refine wl_rd rfl rfl (rd_call rfl rfl rfl (fun w _ => by with_reducible exact LA w)) ?_ | refine wl_rd rfl rfl (rd_call rfl rfl rfl (fun w _ => by with_reducible exact LB w)) ?_ | refine wl_rd rfl rfl (rd_call rfl rfl rfl (fun w _ => by with_reducible exact AC w)) ?_ | refine wl_rd rfl rfl (rd_call rfl rfl rfl (fun w _ => by with_reducible exact RC w)) ?_ | refine wl_rd rfl rfl (RdV.rd (rd_lenS rfl rfl rfl rfl rfl)) ?_) | ((with_reducible refine sel_box ?_); first | (refine wl_new rfl rfl (mk_box rfl rfl) ?_; intro n hn)) | ((with_reducible refine sel_store ?_); first | refine wl_store rfl rfl (sv_whole rfl rfl rfl) ?_ | refine wl_store rfl rfl (sv_cell rfl rfl rfl rfl) ?_ | refine wl_store rfl rfl (sv_row rfl rfl rfl rfl) ?_) | (refine wl_skip rfl rfl ?_) | ((with_reducible refine seld_load ?_); first | refine wd_rd hm0 rfl rfl rfl rfl (RdV.rd (rd_load rfl rfl (ld_whole))) ?_ | refine wd_rd hm0 rfl rfl rfl rfl (RdV.rd (rd_load rfl rfl (ld_cell))) ?_ | refine wd_rd hm0 rfl rfl rfl rfl (RdV.rd (rd_load rfl rfl (ld_row))) ?_) | ((with_reducible refine seld_alloc ?_); first | (refine wd_allocC hm0 rfl rfl rfl ?_; intro n hn hn0) | (refine wd_alloc hm0 rfl rfl rfl ?_; intro n hn hn0)) | ((with_reducible refine seld_call ?_); first | refine wd_rd hm0 rfl rfl rfl rfl (rd_call rfl rfl rfl (fun w _ => by with_reducible exact LA w)) ?_ | refine wd_rd hm0 rfl rfl rfl rfl (rd_call rfl rfl rfl (fun w _ => by with_reducible exact LB w)) ?_ | refine wd_rd hm0 rfl rfl rfl rfl (rd_call rfl rfl rfl (fun w _ => by with_reducible exact AC w)) ?_ | refine wd_rd hm0 rfl rfl rfl rfl (rd_call rfl rfl rfl (fun w _ => by with_reducible exact RC w)) ?_ | refine wd_rd hm0 rfl rfl rfl rfl (RdV.rd (rd_lenS rfl rfl rfl rfl rfl)) ?_) | ((with_reducible refine seld_move ?_); first | refine wd_move rfl rfl rfl rfl ?_) | ((with_reducible refine seld_assign ?_); first | refine wd_assign rfl rfl rfl rfl ?_) | ((with_reducible refine seld_extract ?_); first | refine wd_extract rfl rfl rfl rfl ?_) | ((with_reducible refine seld_store ?_); first | refine wd_row (clean' := true) hm0 rfl rfl rfl rfl rfl (fun _ => ⟨rfl, by assumption⟩) ?_ | refine wd_cell (clean' := true) hm0 rfl rfl rfl rfl rfl rfl (fun _ => ⟨rfl, by assumption⟩) ?_ | refine wd_row (clean' := false) hm0 rfl rfl rfl rfl rfl (by intro h; cases h) ?_ | refine wd_cell (clean' := false) hm0 rfl rfl rfl rfl rfl rfl (by intro h; cases h) ?_) | (refine wd_skip rfl rfl ?_) | ((with_reducible refine seld_nil ?_); refine wd_nil hm0 ?_; clear hm0 hw0) | ((with_reducible refine wc_seq ?_); intro K hK) | ((with_reducible refine wc_region ?_); (try simp only [List.append_eq, List.cons_append, List.nil_append])) | (with_reducible refine wc_block ?_) | (with_reducible refine wc_skip ?_) | (with_reducible refine wc_exit ?_) | (with_reducible refine wc_ret ?_) | (with_reducible refine wc_label ?_) | ((with_reducible refine sel_cond ?_); first | refine wc_true rfl ?_ | refine wc_false rfl ?_ | refine wc_cond rfl (fun hc => ?_) (fun hc => ?_)) | (with_reducible refine wl_nil ?_) | (refine wc_draw (by kernel_rfl) (by kernel_rfl) (by decide +kernel) ?_; intro w0 hw0 hm0; (try simp only [List.append_eq, List.cons_append, List.nil_append])))
  first | refine end_ret (ResP.cell rfl ld_whole ResP.nil) ?_ | refine end_normal (ResP.cell rfl ld_whole ResP.nil) ?_
  first | rfl | (show _ = _; rfl) | (simp only [tupV, *]; done)
set_option maxHeartbeats 1000000 in
theorem negS (a : Nat) (ha : a < T256) (w : World) : Calls Try.prog 31 [nu a].toArray w (Ret (nu (sneg a)) w) := by
  have LA := lowS a ha
  have LC := l_c
  have h1 := slow_L a
  have hT := SL_T
  have SC := sub_nu SLn (slow a) SL_T (slow_lt a)
  have RC := lowS (SLn - slow a) (by omega)
  have e : slow (SLn - slow a) = sneg a := by rw [sneg_def, slow_def, slow_def]
  rw [e] at RC
  have e2 : (SLn + T256 - slow a) % T256 = SLn - slow a := by
    rw [show SLn + T256 - slow a = SLn - slow a + T256 by omega, Nat.add_mod_right, Nat.mod_eq_of_lt (by omega)]
  rw [e2] at SC
  clear h1 hT e e2 ha
  generalize SLn - slow a = s at *
  generalize slow a = x at *
  generalize sneg a = r at *
  refine fn_ret (N := _) Try.func31 rfl Try.ntmps31 Try.results31 (by simp) ?_
  simp only [initS, Nat.reduceAdd, Nat.zero_add]
  repeat' (first | (with_reducible refine then_normal ?_) | ((with_reducible refine then_ret ?_); clear hK K) | ((with_reducible refine then_exit ?_); clear hK K) | (with_reducible refine then_exit ?_) | (with_reducible refine then_ret ?_) | (with_reducible refine inB_normal ?_) | (with_reducible refine inB_ret ?_) | (with_reducible refine inB_here ?_) | (with_reducible refine inB_out (by decide) ?_) | ((with_reducible refine hK _ _ ?_); clear hK K) | ((with_reducible refine sel_load ?_); first | refine wl_rd rfl rfl (RdV.rd (rd_load rfl rfl (ld_whole))) ?_ | refine wl_rd rfl rfl (RdV.rd (rd_load rfl rfl (ld_cell))) ?_ | refine wl_rd rfl rfl (RdV.rd (rd_load rfl rfl (ld_row))) ?_) | ((with_reducible refine sel_alloc ?_); first | (refine wl_new rfl rfl (mk_allocC rfl) ?_; intro n hn) | (refine wl_new rfl rfl (mk_alloc rfl) ?_; intro n hn)) | ((with_reducible refine sel_call ?_); first | refine wl_rd rfl rfl (rd_call rfl rfl rfl (fun w _ => by with_reducible exact LA w)) ?_ | refine wl_rd rfl rfl (rd_call rfl rfl rfl (fun w _ => by with_reducible exact LC w)) ?_ | refine wl_rd rfl rfl (rd_call rfl rfl rfl (fun w _ => by with_reducible exact SC w)) ?_ | refine wl_rd rfl rfl (rd_call rfl rfl rfl (fun w _ => by with_reducible exact RC w)) ?_ | refine wl_rd rfl rfl (RdV.rd (rd_lenS rfl rfl rfl rfl rfl)) ?_) | ((with_reducible refine sel_box ?_); first | (refine wl_new rfl rfl (mk_box rfl rfl) ?_; intro n hn)) | ((with_reducible refine sel_store ?_); first | refine wl_store rfl rfl (sv_whole rfl rfl rfl) ?_ | refine wl_store rfl rfl (sv_cell rfl rfl rfl rfl) ?_ | refine wl_store rfl rfl (sv_row rfl rfl rfl rfl) ?_) | (refine wl_skip rfl rfl ?_) | ((with_reducible refine seld_load ?_); first | refine wd_rd hm0 rfl rfl rfl rfl (RdV.rd (rd_load rfl rfl (ld_whole))) ?_ | refine wd_rd hm0 rfl rfl rfl rfl (RdV.rd (rd_load rfl rfl (ld_cell))) ?_ | refine wd_rd hm0 rfl rfl rfl rfl (RdV.rd (rd_load rfl rfl (ld_row))) ?_) | ((with_reducible refine seld_alloc ?_); first | (refine wd_allocC hm0 rfl rfl rfl ?_; intro n hn hn0) | (refine wd_alloc hm0 rfl rfl rfl ?_; intro n hn hn0)) | ((with_reducible refine seld_call ?_); first | refine wd_rd hm0 rfl rfl rfl rfl (rd_call rfl rfl rfl (fun w _ => by with_reducible exact LA w)) ?_ | refine wd_rd hm0 rfl rfl rfl rfl (rd_call rfl rfl rfl (fun w _ => by with_reducible exact LC w)) ?_ | refine wd_rd hm0 rfl rfl rfl rfl (rd_call rfl rfl rfl (fun w _ => by with_reducible exact SC w)) ?_ | refine wd_rd hm0 rfl rfl rfl rfl (rd_call rfl rfl rfl (fun w _ => by with_reducible exact RC w)) ?_ | refine wd_rd hm0 rfl rfl rfl rfl (RdV.rd (rd_lenS rfl rfl rfl rfl rfl)) ?_) | ((with_reducible refine seld_move ?_); first | refine wd_move rfl rfl rfl rfl ?_) | ((with_reducible refine seld_assign ?_); first | refine wd_assign rfl rfl rfl rfl ?_) | ((with_reducible refine seld_extract ?_); first | refine wd_extract rfl rfl rfl rfl ?_) | ((with_reducible refine seld_store ?_); first | refine wd_row (clean' := true) hm0 rfl rfl rfl rfl rfl (fun _ => ⟨rfl, by assumption⟩) ?_ | refine wd_cell (clean' := true) hm0 rfl rfl rfl rfl rfl rfl (fun _ => ⟨rfl, by assumption⟩) ?_ | refine wd_row (clean' := false) hm0 rfl rfl rfl rfl rfl (by intro h; cases h) ?_ | refine wd_cell (clean' := false) hm0 rfl rfl rfl rfl rfl rfl (by intro h; cases h) ?_) | (refine wd_skip rfl rfl ?_) | ((with_reducible refine seld_nil ?_); refine wd_nil hm0 ?_; clear hm0 hw0) | ((with_reducible refine wc_seq ?_); intro K hK) | ((with_reducible refine wc_region ?_); (try simp only [List.append_eq, List.cons_append, List.nil_append])) | (with_reducible refine wc_block ?_) | (with_reducible refine wc_skip ?_) | (with_reducible refine wc_exit ?_) | (with_reducible refine wc_ret ?_) | (with_reducible refine wc_label ?_) | ((with_reducible refine sel_cond ?_); first | refine wc_true rfl ?_ | refine wc_false rfl ?_ | refine wc_cond rfl (fun hc => ?_) (fun hc => ?_)) | (with_reducible refine wl_nil ?_) | (refine wc_draw (by kernel_rfl) (by kernel_rfl) (by decide +kernel) ?_; intro w0 hw0 hm0; (try simp only [List.append_eq, List.cons_append, List.nil_append])))
  first | refine end_ret (ResP.cell rfl ld_whole ResP.nil) ?_ | refine end_normal (ResP.cell rfl ld_whole ResP.nil) ?_
  first | rfl | (show _ = _; rfl) | (simp only [tupV, *]; done)
end Go.Proofs.Ytglbnbdeoenilaa
