/- LadderLow: the walk. -/
import Derived.Test.YtjiiccainfhgkaaLadK
namespace Go.Proofs.Ytjiiccainfhgkaa.LadderLowWalk
open Go.RowKit
set_option linter.unusedVariables false
set_option linter.unusedSimpArgs false
set_option maxRecDepth 8000
set_option maxHeartbeats 4000000 in
theorem walk (k : Nat) (hk : k < T256) (u : Nat) (hu : u < T256) (w : World) :
    Calls Try.prog 4 #[num k, num u] w (Ret (.bool true) w) := by
  rw [nu_num, nu_num]
  have CK := ladders_k
  have A := ladderG k u hk hu
  have B := lowG u hu
  have C := ladderG k (flow u) hk (flow_lt u)
  rw [lad_low k u hk] at C
  have D := ladderG k 0 hk (by decide)
  rw [lad_zero] at D
  have G := ladderG k PP hk PP_lt
  rw [lad_PP] at G
  have PC := p_f
  have Z := ladderG 0 u (by decide) hu
  rw [lad_no] at Z
  have J := ladderG 1 u (by decide) hu
  rw [lad_once] at J
  have q0 := eq_same (x := 0) (by decide)
  have q1 := eq_same (lad_lt k u)
  have q2 := eq_same (flow_lt u)
  clear hk hu
  generalize lad k u = x at *
  generalize flow u = y at *
  generalize PP = pp at *
  refine fn_ret (N := _) Try.func4 rfl Try.ntmps4 Try.results4 (by simp) ?_
  simp only [initS, Nat.reduceAdd, Nat.zero_add]
  repeat' (first | (with_reducible refine then_normal ?_) | ((with_reducible refine then_ret ?_); clear hK K) | ((with_reducible refine then_exit ?_); clear hK K) | (with_reducible refine then_exit ?_) | (with_reducible refine then_ret ?_) | (with_reducible refine inB_normal ?_) | (with_reducible refine inB_ret ?_) | (with_reducible refine inB_here ?_) | (with_reducible refine inB_out (by decide) ?_) | ((with_reducible refine hK _ _ ?_); clear hK K) | ((with_reducible refine sel_assign ?_); first | refine wl_rd rfl rfl (RdV.rd (rd_assign rfl rfl)) ?_) | ((with_reducible refine sel_unop ?_); first | refine wl_rd rfl rfl (RdV.rd (rd_not rfl rfl)) ?_ | refine wl_rd rfl rfl (RdV.rd (rd_neg rfl rfl)) ?_ | refine wl_rd rfl rfl (RdV.rd (rd_inv rfl rfl)) ?_) | ((with_reducible refine sel_alloc ?_); first | (refine wl_new rfl rfl (mk_allocC rfl) ?_; intro n hn) | (refine wl_new rfl rfl (mk_alloc rfl) ?_; intro n hn)) | ((with_reducible refine sel_build ?_); first | refine wl_rd rfl rfl (RdV.rd (rd_cast (rd_buildA rfl rfl) (by first | exact nu_l0 | exact nu_l1 | exact nu_l2 | exact nu_l3 | exact nu_l5 | exact nu_l7 | exact nu_l8 | exact nu_l9 | exact nu_l19 | exact nu_l38 | exact nu_l121665 | exact wi_l0 | exact wi_l3 | exact wi_l7 | exact wi_l15))) ?_ | refine wl_rd rfl rfl (RdV.rd (rd_buildA rfl rfl)) ?_ | refine wl_rd rfl rfl (RdV.rd (rd_buildS rfl rfl)) ?_) | ((with_reducible refine sel_call ?_); first | refine wl_rd rfl rfl (rd_call rfl rfl rfl (fun w _ => by with_reducible exact CK w)) ?_ | refine wl_rd rfl rfl (rd_call rfl rfl rfl (fun w _ => by with_reducible exact B w)) ?_ | refine wl_rd rfl rfl (rd_call rfl rfl rfl (fun w _ => by with_reducible exact PC w)) ?_ | refine wl_rd rfl rfl (rd_call rfl rfl rfl (fun w _ => by with_reducible exact A w)) ?_ | refine wl_rd rfl rfl (rd_call rfl rfl rfl (fun w _ => by with_reducible exact C w)) ?_ | refine wl_rd rfl rfl (rd_call rfl rfl rfl (fun w _ => by with_reducible exact D w)) ?_ | refine wl_rd rfl rfl (rd_call rfl rfl rfl (fun w _ => by with_reducible exact G w)) ?_ | refine wl_rd rfl rfl (rd_call rfl rfl rfl (fun w _ => by with_reducible exact Z w)) ?_ | refine wl_rd rfl rfl (rd_call rfl rfl rfl (fun w _ => by with_reducible exact J w)) ?_ | refine wl_rd rfl rfl (RdV.rd (rd_lenS rfl rfl rfl rfl rfl)) ?_) | ((with_reducible refine sel_box ?_); first | (refine wl_new rfl rfl (mk_box rfl rfl) ?_; intro n hn)) | ((with_reducible refine sel_store ?_); first | refine wl_store rfl rfl (sv_whole rfl rfl rfl) ?_ | refine wl_store rfl rfl (sv_cell rfl rfl rfl rfl) ?_ | refine wl_store rfl rfl (sv_row rfl rfl rfl rfl) ?_) | (refine wl_skip rfl rfl ?_) | ((with_reducible refine seld_pick ?_); first | refine wd_rd hm0 rfl rfl rfl rfl (RdV.rd (rd_pick rfl rfl rfl rfl rfl)) ?_) | ((with_reducible refine seld_b_eql ?_); first | refine wd_rd hm0 rfl rfl rfl rfl (RdV.rd (rd_cm rfl rfl rfl rfl)) ?_ | refine wd_rd hm0 rfl rfl rfl rfl (RdV.rd (rd_eqlB rfl rfl rfl (by first | with_reducible assumption | rfl))) ?_ | refine wd_rd hm0 rfl rfl rfl rfl (RdV.rd (rd_eqlV rfl rfl rfl (by with_reducible exact q0))) ?_ | refine wd_rd hm0 rfl rfl rfl rfl (RdV.rd (rd_eqlV rfl rfl rfl (by with_reducible exact q1))) ?_ | refine wd_rd hm0 rfl rfl rfl rfl (RdV.rd (rd_eqlV rfl rfl rfl (by with_reducible exact q2))) ?_) | ((with_reducible refine seld_load ?_); first | refine wd_rd hm0 rfl rfl rfl rfl (RdV.rd (rd_load rfl rfl (ld_whole))) ?_ | refine wd_rd hm0 rfl rfl rfl rfl (RdV.rd (rd_load rfl rfl (ld_cell))) ?_ | refine wd_rd hm0 rfl rfl rfl rfl (RdV.rd (rd_load rfl rfl (ld_row))) ?_) | ((with_reducible refine seld_build ?_); first | refine wd_rd hm0 rfl rfl rfl rfl (RdV.rd (rd_cast (rd_buildA rfl rfl) (by first | exact nu_l0 | exact nu_l1 | exact nu_l2 | exact nu_l3 | exact nu_l5 | exact nu_l7 | exact nu_l8 | exact nu_l9 | exact nu_l19 | exact nu_l38 | exact nu_l121665 | exact wi_l0 | exact wi_l3 | exact wi_l7 | exact wi_l15))) ?_ | refine wd_rd hm0 rfl rfl rfl rfl (RdV.rd (rd_buildA rfl rfl)) ?_ | refine wd_rd hm0 rfl rfl rfl rfl (RdV.rd (rd_buildS rfl rfl)) ?_) | ((with_reducible refine seld_call ?_); first | refine wd_rd hm0 rfl rfl rfl rfl (rd_call rfl rfl rfl (fun w _ => by with_reducible exact CK w)) ?_ | refine wd_rd hm0 rfl rfl rfl rfl (rd_call rfl rfl rfl (fun w _ => by with_reducible exact B w)) ?_ | refine wd_rd hm0 rfl rfl rfl rfl (rd_call rfl rfl rfl (fun w _ => by with_reducible exact PC w)) ?_ | refine wd_rd hm0 rfl rfl rfl rfl (rd_call rfl rfl rfl (fun w _ => by with_reducible exact A w)) ?_ | refine wd_rd hm0 rfl rfl rfl rfl (rd_call rfl rfl rfl (fun w _ => by with_reducible exact C w)) ?_ | refine wd_rd hm0 rfl rfl rfl rfl (rd_call rfl rfl rfl (fun w _ => by with_reducible exact D w)) ?_ | refine wd_rd hm0 rfl rfl rfl rfl (rd_call rfl rfl rfl (fun w _ => by with_reducible exact G w)) ?_ | refine wd_rd hm0 rfl rfl rfl rfl (rd_call rfl rfl rfl (fun w _ => by with_reducible exact Z w)) ?_ | refine wd_rd hm0 rfl rfl rfl rfl (rd_call rfl rfl rfl (fun w _ => by with_reducible exact J w)) ?_ | refine wd_rd hm0 rfl rfl rfl rfl (RdV.rd (rd_lenS rfl rfl rfl rfl rfl)) ?_) | ((with_reducible refine seld_move ?_); first | refine wd_move rfl rfl rfl rfl ?_) | ((with_reducible refine seld_assign ?_); first | refine wd_assign rfl rfl rfl rfl ?_) | (refine wd_skip rfl rfl ?_) | ((with_reducible refine seld_nil ?_); refine wd_nil hm0 ?_; clear hm0 hw0) | ((with_reducible refine wc_seq ?_); intro K hK) | ((with_reducible refine wc_region ?_); (try simp only [List.append_eq, List.cons_append, List.nil_append])) | (with_reducible refine wc_block ?_) | (with_reducible refine wc_skip ?_) | (with_reducible refine wc_exit ?_) | (with_reducible refine wc_ret ?_) | (with_reducible refine wc_label ?_) | ((with_reducible refine sel_cond ?_); first | refine wc_true rfl ?_ | refine wc_false rfl ?_ | refine wc_cond rfl (fun hc => ?_) (fun hc => ?_)) | (with_reducible refine wl_nil ?_) | (refine wc_draw (by kernel_rfl) (by kernel_rfl) (by decide +kernel) ?_; intro w0 hw0 hm0; (try simp only [List.append_eq, List.cons_append, List.nil_append])))
  first | refine end_ret (ResP.tmp rfl ResP.nil) ?_ | refine end_normal (ResP.tmp rfl ResP.nil) ?_
  first | rfl | (show _ = _; rfl)
end Go.Proofs.Ytjiiccainfhgkaa.LadderLowWalk
