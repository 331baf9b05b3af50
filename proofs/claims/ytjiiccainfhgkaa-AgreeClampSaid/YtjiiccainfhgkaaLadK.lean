/- sealringkeep.ladders; when two numbers are told alike. -/
import Derived.Test.YtjiiccainfhgkaaLadWalk
import Derived.Test.YtjiiccainfhgkaaLawAll
namespace Go.Proofs.Ytjiiccainfhgkaa
open Go.RowKit
set_option linter.unusedVariables false
set_option linter.unusedSimpArgs false
set_option maxRecDepth 8000
theorem eq_same {x : Nat} (hx : x < T256) (w : World) : (Op.equalIn 10000 24 (nu x) (nu x)).run Try.prog w = .ok true w := eqNu (decide_eq_true rfl) hx hx w
theorem flow_nine : flow 9 = 9 := flow_of (by decide)
set_option maxHeartbeats 1000000 in
theorem ladders_k (w : World) : Calls Try.prog 24 [].toArray w (Ret (.bool true) w) := by
  have LC := ladderG 1 9 (by decide) (by decide)
  rw [lad_once, flow_nine] at LC
  have q1 := eq_same (x := 9) (by decide)
  refine fn_ret (N := _) Try.func24 rfl Try.ntmps24 Try.results24 (by simp) ?_
  simp only [initS, Nat.reduceAdd, Nat.zero_add]
  repeat' (first | (with_reducible refine then_normal ?_) | ((with_reducible refine then_ret ?_); clear hK K) | ((with_reducible refine then_exit ?_); clear hK K) | (with_reducible refine then_exit ?_) | (with_reducible refine then_ret ?_) | (with_reducible refine inB_normal ?_) | (with_reducible refine inB_ret ?_) | (with_reducible refine inB_here ?_) | (with_reducible refine inB_out (by decide) ?_) | ((with_reducible refine hK _ _ ?_); clear hK K) | ((with_reducible refine sel_assign ?_); first | refine wl_rd rfl rfl (RdV.rd (rd_assign rfl rfl)) ?_) | ((with_reducible refine sel_b_eql ?_); first | refine wl_rd rfl rfl (RdV.rd (rd_cm rfl rfl rfl rfl)) ?_ | refine wl_rd rfl rfl (RdV.rd (rd_eqlB rfl rfl rfl (by first | with_reducible assumption | rfl))) ?_ | refine wl_rd rfl rfl (RdV.rd (rd_eqlV rfl rfl rfl (by with_reducible exact q1))) ?_) | ((with_reducible refine sel_build ?_); first | refine wl_rd rfl rfl (RdV.rd (rd_cast (rd_buildA rfl rfl) (by first | exact nu_l0 | exact nu_l1 | exact nu_l2 | exact nu_l3 | exact nu_l5 | exact nu_l7 | exact nu_l8 | exact nu_l9 | exact nu_l19 | exact nu_l38 | exact nu_l121665 | exact wi_l0 | exact wi_l3 | exact wi_l7 | exact wi_l15))) ?_ | refine wl_rd rfl rfl (RdV.rd (rd_buildA rfl rfl)) ?_ | refine wl_rd rfl rfl (RdV.rd (rd_buildS rfl rfl)) ?_) | ((with_reducible refine sel_call ?_); first | refine wl_rd rfl rfl (rd_call rfl rfl rfl (fun w _ => by with_reducible exact LC w)) ?_ | refine wl_rd rfl rfl (RdV.rd (rd_lenS rfl rfl rfl rfl rfl)) ?_) | (refine wl_skip rfl rfl ?_) | ((with_reducible refine wc_seq ?_); intro K hK) | ((with_reducible refine wc_region ?_); (try simp only [List.append_eq, List.cons_append, List.nil_append])) | (with_reducible refine wc_block ?_) | (with_reducible refine wc_skip ?_) | (with_reducible refine wc_exit ?_) | (with_reducible refine wc_ret ?_) | (with_reducible refine wc_label ?_) | ((with_reducible refine sel_cond ?_); first | refine wc_true rfl ?_ | refine wc_false rfl ?_ | refine wc_cond rfl (fun hc => ?_) (fun hc => ?_)) | (with_reducible refine wl_nil ?_))
  first | refine end_ret (ResP.tmp rfl ResP.nil) ?_ | refine end_normal (ResP.tmp rfl ResP.nil) ?_
  first | rfl | (show _ = _; rfl)
end Go.Proofs.Ytjiiccainfhgkaa
