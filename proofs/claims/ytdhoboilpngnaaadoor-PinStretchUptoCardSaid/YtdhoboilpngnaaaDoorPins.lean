/- What the law's helper pins answers. -/
import Derived.Test.YtdhoboilpngnaaaDoorPin
namespace Go.Proofs.YtdhoboilpngnaaaDoor
open Go.RowKit
attribute [local irreducible] rwA bys iw
set_option linter.unusedVariables false
set_option linter.unusedSimpArgs false
theorem bz32p : Value.agg (List.replicate 32 (Value.int .u8 0)).toArray = .agg (bys (List.replicate 32 0)) := by simp [bys, bl]
theorem stretch_nz : (stretchD [] [] == List.replicate 32 0) = false := by decide +kernel
set_option maxRecDepth 100000 in
set_option maxHeartbeats 4000000 in
theorem pins_g (w : World) (hT : Tab w) (w' : World) (hb : Below w.heap.size w w') : Calls Tryd.prog 37 [].toArray w' (Ret (.bool true) w') := by
  have D : ∀ w'', Below w'.heap.size w' w'' → Calls Tryd.prog 39 [.slice none 0 0, .slice none 0 0].toArray w'' (Ret (.agg (bys (stretchD [] []))) w'') := fun w'' h => stretch_g w' (hT.below hb) w'' h (cb_nil w'') (cb_nil w'')
  have E : ∀ w'', (Op.equalIn 10000 30 (.agg (bys (stretchD [] []))) (.agg (bys (List.replicate 32 0)))).run Tryd.prog w'' = .ok false w'' := eql_bys (NBy.out (l := stretchD [] [])) (by simp) stretch_nz
  generalize stretchD [] [] = d at *
  clear hT hb
  refine fn_ret (N := _) Tryd.func37 rfl Tryd.ntmps37 Tryd.results37 (by simp) ?_
  simp only [initS, Nat.reduceAdd, Nat.zero_add]
  repeat' (first | (with_reducible refine then_normal ?_) | ((with_reducible refine then_ret ?_); clear hK K) | ((with_reducible refine then_exit ?_); clear hK K) | (with_reducible refine then_exit ?_) | (with_reducible refine then_ret ?_) | (with_reducible refine inB_normal ?_) | (with_reducible refine inB_ret ?_) | (with_reducible refine inB_here ?_) | (with_reducible refine inB_out (by decide) ?_) | ((with_reducible refine hK _ _ ?_); clear hK K) | ((with_reducible refine sel_call ?_); first | (refine wl_appendB rfl rfl rfl rfl rfl ?_; intro v oa ho) | (refine wl_appendO rfl rfl rfl rfl rfl ?_; intro v oa ho) | refine wl_rd rfl rfl (rd_call rfl rfl rfl (fun w hm => by with_reducible exact D w (hm.below rfl))) ?_ | refine wl_rd rfl rfl (RdV.rd (rd_lenO rfl rfl rfl rfl rfl)) ?_ | refine wl_rd rfl rfl (RdV.rd (rd_lenS rfl rfl rfl rfl rfl)) ?_) | ((with_reducible refine sel_build ?_); first | refine wl_rd rfl rfl (RdV.rd (rd_buildO rfl rfl rfl rfl rfl)) ?_ | refine wl_rd rfl rfl (RdV.rd (rd_cast (rd_buildA rfl rfl) bz32p)) ?_ | refine wl_rd rfl rfl (RdV.rd (rd_buildA rfl rfl)) ?_ | refine wl_rd rfl rfl (RdV.rd (rd_buildS rfl rfl)) ?_) | ((with_reducible refine sel_assign ?_); first | refine wl_rd rfl rfl (RdV.rd (rd_assign rfl rfl)) ?_) | ((with_reducible refine sel_b_neq ?_); first | refine wl_rd rfl rfl (RdV.rd (rd_cm rfl rfl rfl rfl)) ?_ | refine wl_rd rfl rfl (RdV.rd (rd_neqV rfl rfl rfl (by with_reducible exact E))) ?_) | (refine wl_skip rfl rfl ?_) | ((with_reducible refine wc_seq ?_); intro K hK) | ((with_reducible refine wc_region ?_); (try simp only [List.append_eq, List.cons_append, List.nil_append])) | (with_reducible refine wc_block ?_) | (with_reducible refine wc_skip ?_) | (with_reducible refine wc_exit ?_) | (with_reducible refine wc_ret ?_) | (with_reducible refine wc_label ?_) | ((with_reducible refine sel_cond ?_); first | refine wc_true rfl ?_ | refine wc_false rfl ?_ | refine wc_cond rfl (fun hc => ?_) (fun hc => ?_)) | (with_reducible refine wl_nil ?_))
  first | refine end_ret (ResP.tmp rfl ResP.nil) ?_ | refine end_normal (ResP.tmp rfl ResP.nil) ?_
  first | rfl | (show _ = _; rfl) | (simp only [tupV, *]; done)
end Go.Proofs.YtdhoboilpngnaaaDoor
