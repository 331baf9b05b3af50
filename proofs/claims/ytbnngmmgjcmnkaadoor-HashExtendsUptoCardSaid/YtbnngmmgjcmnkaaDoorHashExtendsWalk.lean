/- HashExtends: the walk. -/
import Derived.Test.YtbnngmmgjcmnkaaDoorHashG
namespace Go.Proofs.YtbnngmmgjcmnkaaDoor.HashExtendsWalk
open Go.RowKit
set_option linter.unusedVariables false
set_option linter.unusedSimpArgs false
set_option maxRecDepth 100000 in
set_option maxHeartbeats 8000000 in
theorem walk (w : World) (hT : Tab w) {v0 v1 : Value} {m0 m1 : Nat} {p q : List Nat} (h0 : Cb w v0 m0 p) (h1 : Cb w v1 m1 q) (b0 : m0 + m1 ≤ 1048576) :
    Calls Tryd.prog 5 [v0, v1].toArray w (Ret (.bool true) w) := by
  have i0 := h0.old
  have i1 := h1.old
  haveI : ByL p := ⟨h0.ok.by'⟩
  haveI : ByL q := ⟨h1.ok.by'⟩
  have hl := h0.ok.len
  have hk := padK_lt m0
  have WG := write_g w hT
  have SG := sum_g w hT
  have DG := dig_g w hT
  have HG := hashes_g w hT
  have PG := fun w' => pad_c m0 (by omega) w'
  have hext := extends_plain p q (by rw [hl, padL_len]; omega)
  rw [hl, padL_len] at hext
  have h64 : (m0 + (padK m0 + 9)) % 64 = 0 := by rw [padK]; omega
  have RG : ∀ w', Calls Tryd.prog 27 [.agg (bys (dig p)), .int .u64 ((m0 + (padK m0 + 9) : Nat) : Int)].toArray w' (Ret (.tuple #[hv (resumeH (dig p) (m0 + (padK m0 + 9))), .int .i64 0]) w') := fun w' => resume_c w' ⟨dig_len p, ByL.out⟩ (by omega) h64
  have hro : (resumeH (dig p) (m0 + (padK m0 + 9))).ok := resS_ok (dig p) (i := 8) (by omega) (by omega)
  have c1 : IntKind.u64.wrap (m0 : Int) = (m0 : Int) := by rw [wrap_u64 _ (by omega) (by omega)]
  have c2 : IntKind.u64.wrap ((padK m0 + 9 : Nat) : Int) = ((padK m0 + 9 : Nat) : Int) := by rw [wrap_u64 _ (by omega) (by omega)]
  have c3 : IntKind.u64.wrap ((m0 : Int) + ((padK m0 + 9 : Nat) : Int)) = ((m0 + (padK m0 + 9) : Nat) : Int) := by rw [wrap_u64 _ (by omega) (by omega)]; omega
  generalize resumeH (dig p) (m0 + (padK m0 + 9)) = st at *
  haveI : HSo st := ⟨hro⟩
  have E1 : ∀ w', (Op.equalIn 10000 35 (.agg (bys (st.write q).sum)) (.agg (bys (dig ([] ++ p ++ padL m0 ++ q))))).run Tryd.prog w' = .ok true w' := eql_bys (sum_len HSo.out) (dig_len _) (by rw [hext]; simp)
  clear h0 h1 hT hext h64
  refine fn_ret (N := _) Tryd.func5 rfl Tryd.ntmps5 Tryd.results5 (by simp) ?_
  simp only [initS, Nat.reduceAdd, Nat.zero_add]
  repeat' (first | (with_reducible refine then_normal ?_) | ((with_reducible refine then_ret ?_); clear hK K) | ((with_reducible refine then_exit ?_); clear hK K) | (with_reducible refine then_exit ?_) | (with_reducible refine then_ret ?_) | (with_reducible refine inB_normal ?_) | (with_reducible refine inB_ret ?_) | (with_reducible refine inB_here ?_) | (with_reducible refine inB_out (by decide) ?_) | ((with_reducible refine hK _ _ ?_); clear hK K) | ((with_reducible refine sel_load ?_); first | refine wl_rd rfl rfl (RdV.rd (rd_load rfl rfl ld_O)) ?_ | refine wl_rd rfl rfl (RdV.rd (rd_load rfl rfl ld_OR)) ?_ | refine wl_rd rfl rfl (RdV.rd (rd_load rfl rfl ld_wholeG)) ?_ | refine wl_rd rfl rfl (RdV.rd (rd_load rfl rfl ld_sg)) ?_ | refine wl_rd rfl rfl (RdV.rd (rd_load rfl rfl ld_sg1)) ?_ | refine wl_rd rfl rfl (RdV.rd (rd_load rfl rfl (ld_whole))) ?_ | refine wl_rd rfl rfl (RdV.rd (rd_load rfl rfl (ld_cell))) ?_ | refine wl_rd rfl rfl (RdV.rd (rd_load rfl rfl (ld_row))) ?_) | ((with_reducible refine sel_call ?_); first | (refine wl_appendB rfl rfl rfl rfl rfl ?_; intro v oa ho) | (refine wl_appendO rfl rfl rfl rfl rfl ?_; intro v oa ho) | refine wl_rd rfl rfl (rd_call rfl rfl rfl (fun w hm => by with_reducible exact HG w (hm.below rfl))) ?_ | refine wl_rd rfl rfl (rd_call rfl rfl rfl (fun w _ => by with_reducible exact RG w)) ?_ | (refine wl_newO rfl rfl rfl rfl rfl (fun w hm => by with_reducible exact PG w) ?_; intro x oa hx) | refine wl_rd rfl rfl (rd_call rfl rfl rfl (fun w hm => by with_reducible exact WG w (hm.below rfl) (VwB.out w hm))) ?_ | refine wl_rd rfl rfl (rd_call rfl rfl rfl (fun w hm => by with_reducible exact DG w (hm.below rfl) (VwB.out w hm))) ?_ | refine wl_rd rfl rfl (rd_call rfl rfl rfl (fun w hm => by with_reducible exact SG w (hm.below rfl))) ?_ | refine wl_rd rfl rfl (RdV.rd (rd_lenO rfl rfl rfl rfl rfl)) ?_ | refine wl_rd rfl rfl (RdV.rd (rd_lenS rfl rfl rfl rfl rfl)) ?_) | ((with_reducible refine sel_conv ?_); first | refine wl_rd rfl rfl (RdV.rd (rd_convS rfl rfl)) ?_ | refine wl_rd rfl rfl (RdV.rd (rd_conv rfl rfl)) ?_) | ((with_reducible refine sel_b_eql ?_); first | refine wl_rd rfl rfl (RdV.rd (rd_eqlS rfl rfl rfl)) ?_ | refine wl_rd rfl rfl (RdV.rd (rd_cm rfl rfl rfl rfl)) ?_ | refine wl_rd rfl rfl (RdV.rd (rd_eqlB rfl rfl rfl (by first | with_reducible assumption | rfl))) ?_ | refine wl_rd rfl rfl (RdV.rd (rd_eqlV rfl rfl rfl (by with_reducible exact E1))) ?_) | ((with_reducible refine sel_store ?_); first | refine wl_store rfl rfl (sv_wholeG rfl rfl rfl) ?_ | refine wl_store rfl rfl (sv_sg rfl rfl rfl) ?_ | refine wl_store rfl rfl (sv_sg1 rfl rfl rfl) ?_ | refine wl_store rfl rfl (sv_whole rfl rfl rfl) ?_ | refine wl_store rfl rfl (sv_cell rfl rfl rfl rfl) ?_ | refine wl_store rfl rfl (sv_row rfl rfl rfl rfl) ?_ | refine wl_store rfl rfl (sv_cell rfl rfl rfl One.out) ?_ | refine wl_store rfl rfl (sv_row rfl rfl rfl (by simp only [List.all_cons, List.all_nil, One.out, Bool.and_true])) ?_) | ((with_reducible refine sel_alloc ?_); first | (refine wl_new rfl rfl (mk_allocG rfl) ?_; intro n hn) | (refine wl_new rfl rfl (mk_alloc rfl) ?_; intro n hn)) | ((with_reducible refine sel_move ?_); first | refine wl_rd rfl rfl (RdV.rd (rd_move rfl rfl)) ?_) | ((with_reducible refine sel_assign ?_); first | refine wl_rd rfl rfl (RdV.rd (rd_assign rfl rfl)) ?_) | ((with_reducible refine sel_pick ?_); first | refine wl_rd rfl rfl (RdV.rd (rd_pick rfl rfl rfl rfl rfl)) ?_) | ((with_reducible refine sel_extract ?_); first | refine wl_rd rfl rfl (RdV.rd (rd_extract rfl rfl)) ?_) | ((with_reducible refine sel_b_add ?_); first | refine wl_rd rfl rfl (RdV.rd (rd_ar rfl rfl rfl rfl)) ?_) | ((with_reducible refine sel_unop ?_); first | refine wl_rd rfl rfl (RdV.rd (rd_not rfl rfl)) ?_ | refine wl_rd rfl rfl (RdV.rd (rd_neg rfl rfl)) ?_ | refine wl_rd rfl rfl (RdV.rd (rd_inv rfl rfl)) ?_) | (refine wl_skip rfl rfl ?_) | ((with_reducible refine wc_seq ?_); intro K hK) | ((with_reducible refine wc_region ?_); (try simp only [List.append_eq, List.cons_append, List.nil_append])) | (with_reducible refine wc_block ?_) | (with_reducible refine wc_skip ?_) | (with_reducible refine wc_exit ?_) | (with_reducible refine wc_ret ?_) | (with_reducible refine wc_label ?_) | ((with_reducible refine sel_cond ?_); first | refine wc_true rfl ?_ | refine wc_false rfl ?_ | refine wc_cond rfl (fun hc => ?_) (fun hc => ?_)) | (with_reducible refine wl_nil ?_))
  first | refine end_ret (ResP.tmp rfl ResP.nil) ?_ | refine end_normal (ResP.tmp rfl ResP.nil) ?_
  first | rfl | (show _ = _; rfl) | (simp only [tupV, *]; done)
end Go.Proofs.YtbnngmmgjcmnkaaDoor.HashExtendsWalk
