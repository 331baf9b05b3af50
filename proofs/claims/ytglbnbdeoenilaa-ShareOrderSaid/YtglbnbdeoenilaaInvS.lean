/- scalar.Inv. -/
import Derived.Test.YtglbnbdeoenilaaInv
import Derived.Test.YtglbnbdeoenilaaScalar
namespace Go.Proofs.Ytglbnbdeoenilaa
open Go.RowKit
set_option linter.unusedVariables false
set_option linter.unusedSimpArgs false
set_option maxRecDepth 8000
/-! ### scalar.Inv -/
def sinv (a : Nat) : Nat := if (invF SLn SLn (a % SLn) 0 1).1 = 1 then (invF SLn SLn (a % SLn) 0 1).2 else 0
theorem SL_one : 1 < SLn := by decide +kernel
theorem sinv_lt (a : Nat) : sinv a < T256 := by
  unfold sinv
  split
  · exact Nat.lt_trans (invF_start (m := SLn) (a := a) SL_one).2.1 SL_T
  · decide
set_option maxHeartbeats 1000000 in
theorem invS (a : Nat) (ha : a < T256) (w : World) : Calls Try.prog 32 [nu a].toArray w (Ret (nu (sinv a)) w) := by
  have LC := l_c
  have IC : ∃ e : Int, ∀ w, Calls Try.prog 48 [nu a, nu SLn].toArray w (Ret (.tuple #[nu (sinv a), .int .i64 e]) w) := by
    by_cases h : (invF SLn SLn (a % SLn) 0 1).1 = 1
    · exact ⟨0, inverse_c a SLn _ _ _ 0 ha SL_T SL_one rfl (.inl ⟨h, by unfold sinv; rw [if_pos h], rfl⟩)⟩
    · exact ⟨6, inverse_c a SLn _ _ _ 6 ha SL_T SL_one rfl (.inr ⟨h, by unfold sinv; rw [if_neg h], rfl⟩)⟩
  obtain ⟨e, IC⟩ := IC
  clear ha
  generalize sinv a = r at *
  generalize SLn = sl at *
  refine fn_ret (N := _) Try.func32 rfl Try.ntmps32 Try.results32 (by simp) ?_
  simp only [initS, Nat.reduceAdd, Nat.zero_add]
  repeat' (first | (with_reducible refine then_normal ?_) | ((with_reducible refine then_ret ?_); clear hK K) | ((with_reducible refine then_exit ?_); clear hK K) | (with_reducible refine then_exit ?_) | (with_reducible refine then_ret ?_) | (with_reducible refine inB_normal ?_) | (with_reducible refine inB_ret ?_) | (with_reducible refine inB_here ?_) | (with_reducible refine inB_out (by decide) ?_) | ((with_reducible refine hK _ _ ?_); clear hK K) | ((with_reducible refine sel_load ?_); first | refine wl_rd rfl rfl (RdV.rd (rd_load rfl rfl (ld_whole))) ?_ | refine wl_rd rfl rfl (RdV.rd (rd_load rfl rfl (ld_cell))) ?_ | refine wl_rd rfl rfl (RdV.rd (rd_load rfl rfl (ld_row))) ?_) | ((with_reducible refine sel_alloc ?_); first | (refine wl_new rfl rfl (mk_allocC rfl) ?_; intro n hn) | (refine wl_new rfl rfl (mk_alloc rfl) ?_; intro n hn)) | ((with_reducible refine sel_box ?_); first | (refine wl_new rfl rfl (mk_box rfl rfl) ?_; intro n hn)) | ((with_reducible refine sel_store ?_); first | refine wl_store rfl rfl (sv_whole rfl rfl rfl) ?_ | refine wl_store rfl rfl (sv_cell rfl rfl rfl rfl) ?_ | refine wl_store rfl rfl (sv_row rfl rfl rfl rfl) ?_) | (refine wl_skip rfl rfl ?_) | ((with_reducible refine seld_load ?_); first | refine wd_rd hm0 rfl rfl rfl rfl (RdV.rd (rd_load rfl rfl (ld_whole))) ?_ | refine wd_rd hm0 rfl rfl rfl rfl (RdV.rd (rd_load rfl rfl (ld_cell))) ?_ | refine wd_rd hm0 rfl rfl rfl rfl (RdV.rd (rd_load rfl rfl (ld_row))) ?_) | ((with_reducible refine seld_alloc ?_); first | (refine wd_allocC hm0 rfl rfl rfl ?_; intro n hn hn0) | (refine wd_alloc hm0 rfl rfl rfl ?_; intro n hn hn0)) | ((with_reducible refine seld_call ?_); first | refine wd_rd hm0 rfl rfl rfl rfl (rd_call rfl rfl rfl (fun w _ => by with_reducible exact LC w)) ?_ | refine wd_rd hm0 rfl rfl rfl rfl (rd_call rfl rfl rfl (fun w _ => by with_reducible exact IC w)) ?_ | refine wd_rd hm0 rfl rfl rfl rfl (RdV.rd (rd_lenS rfl rfl rfl rfl rfl)) ?_) | ((with_reducible refine seld_move ?_); first | refine wd_move rfl rfl rfl rfl ?_) | ((with_reducible refine seld_assign ?_); first | refine wd_assign rfl rfl rfl rfl ?_) | ((with_reducible refine seld_extract ?_); first | refine wd_extract rfl rfl rfl rfl ?_) | ((with_reducible refine seld_store ?_); first | refine wd_row (clean' := true) hm0 rfl rfl rfl rfl rfl (fun _ => ⟨rfl, by assumption⟩) ?_ | refine wd_cell (clean' := true) hm0 rfl rfl rfl rfl rfl rfl (fun _ => ⟨rfl, by assumption⟩) ?_ | refine wd_row (clean' := false) hm0 rfl rfl rfl rfl rfl (by intro h; cases h) ?_ | refine wd_cell (clean' := false) hm0 rfl rfl rfl rfl rfl rfl (by intro h; cases h) ?_) | (refine wd_skip rfl rfl ?_) | ((with_reducible refine seld_nil ?_); refine wd_nil hm0 ?_; clear hm0 hw0) | ((with_reducible refine wc_seq ?_); intro K hK) | ((with_reducible refine wc_region ?_); (try simp only [List.append_eq, List.cons_append, List.nil_append])) | (with_reducible refine wc_block ?_) | (with_reducible refine wc_skip ?_) | (with_reducible refine wc_exit ?_) | (with_reducible refine wc_ret ?_) | (with_reducible refine wc_label ?_) | ((with_reducible refine sel_cond ?_); first | refine wc_true rfl ?_ | refine wc_false rfl ?_ | refine wc_cond rfl (fun hc => ?_) (fun hc => ?_)) | (with_reducible refine wl_nil ?_) | (refine wc_draw (by kernel_rfl) (by kernel_rfl) (by decide +kernel) ?_; intro w0 hw0 hm0; (try simp only [List.append_eq, List.cons_append, List.nil_append])))
  first | refine end_ret (ResP.cell rfl ld_whole ResP.nil) ?_ | refine end_normal (ResP.cell rfl ld_whole ResP.nil) ?_
  first | rfl | (show _ = _; rfl) | (simp only [tupV, *]; done)
end Go.Proofs.Ytglbnbdeoenilaa
