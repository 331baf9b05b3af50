/- The package hash, walked: New. -/
import Derived.Test.YtdhoboilpngnaaaDoorShaB
namespace Go.Proofs.YtdhoboilpngnaaaDoor
open Go.RowKit
set_option linter.unusedVariables false
set_option linter.unusedSimpArgs false
/-- A state as a row. -/
abbrev sgH (s : HS) : Sg := [(8, iw s.h), (1, #[.int .u64 (s.n : Int)]), (64, bys s.left)]
abbrev hv (s : HS) : Value := .agg (rwA (sgH s))
class HSo (s : HS) : Prop where
  out : s.ok
instance {s : HS} [h : HSo s] : SegL (iw s.h) 8 := seg_iw h.out.1
instance {s : HS} [h : HSo s] : SegL (bys s.left) 64 := seg_bys h.out.2.2.1
set_option maxRecDepth 100000 in
set_option maxHeartbeats 4000000 in
theorem new_c (w : World) : Calls Tryd.prog 48 #[] w (Ret (hv newH) w) := by
  refine fn_ret (N := _) Tryd.func48 rfl Tryd.ntmps48 Tryd.results48 (by simp) ?_
  simp only [initS, Nat.reduceAdd, Nat.zero_add]
  repeat' (first | (with_reducible refine then_normal ?_) | ((with_reducible refine then_ret ?_); clear hK K) | ((with_reducible refine then_exit ?_); clear hK K) | (with_reducible refine then_exit ?_) | (with_reducible refine then_ret ?_) | (with_reducible refine inB_normal ?_) | (with_reducible refine inB_ret ?_) | (with_reducible refine inB_here ?_) | (with_reducible refine inB_out (by decide) ?_) | ((with_reducible refine hK _ _ ?_); clear hK K) | ((with_reducible refine sel_build ?_); first | refine wl_rd rfl rfl (RdV.rd (rd_buildO rfl rfl rfl rfl rfl)) ?_ | refine wl_rd rfl rfl (RdV.rd (rd_buildA rfl rfl)) ?_ | refine wl_rd rfl rfl (RdV.rd (rd_buildS rfl rfl)) ?_) | ((with_reducible refine sel_alloc ?_); first | (refine wl_new rfl rfl (mk_alloc rfl) ?_; intro n hn)) | ((with_reducible refine sel_store ?_); first | refine wl_store rfl rfl (sv_whole rfl rfl rfl) ?_ | refine wl_store rfl rfl (sv_cell rfl rfl rfl rfl) ?_ | refine wl_store rfl rfl (sv_row rfl rfl rfl rfl) ?_ | refine wl_store rfl rfl (sv_cell rfl rfl rfl One.out) ?_ | refine wl_store rfl rfl (sv_row rfl rfl rfl (by simp only [List.all_cons, List.all_nil, One.out, Bool.and_true])) ?_) | (refine wl_skip rfl rfl ?_) | ((with_reducible refine wc_seq ?_); intro K hK) | ((with_reducible refine wc_region ?_); (try simp only [List.append_eq, List.cons_append, List.nil_append])) | (with_reducible refine wc_block ?_) | (with_reducible refine wc_skip ?_) | (with_reducible refine wc_exit ?_) | (with_reducible refine wc_ret ?_) | (with_reducible refine wc_label ?_) | ((with_reducible refine sel_cond ?_); first | refine wc_true rfl ?_ | refine wc_false rfl ?_ | refine wc_cond rfl (fun hc => ?_) (fun hc => ?_)) | (with_reducible refine wl_nil ?_))
  first | refine end_ret (ResP.cell rfl ld_whole ResP.nil) ?_ | refine end_normal (ResP.cell rfl ld_whole ResP.nil) ?_
  first | rfl | (show _ = _; rfl) | (simp only [tupV, *]; done)
end Go.Proofs.YtdhoboilpngnaaaDoor
