/- The package mac, walked: Write. The package mac, walked: Sum of a state. The package mac, walked: Sum. -/
import Derived.Test.YtdhoboilpngnaaaDoorMac
namespace Go.Proofs.YtdhoboilpngnaaaDoor
open Go.RowKit
attribute [local irreducible] rwA bys iw
set_option linter.unusedVariables false
set_option linter.unusedSimpArgs false
set_option maxRecDepth 100000 in
set_option maxHeartbeats 4000000 in
theorem mwrite_g (w : World) (hT : Tab w) (w' : World) (hb : Below w.heap.size w w') {st : MS} [h : MSo st] {v : Value} {n : Nat} {p : List Nat} (hq : Cb w' v n p) :
    Calls Tryd.prog 57 [mv st, v].toArray w' (Ret (mv (st.write p)) w') := by
  have WG := write_g w' (hT.below hb)
  have i1 := hq.old
  haveI : ByL p := ⟨hq.ok.by'⟩
  have hw : st.write p = ⟨st.inner.write p, st.outer⟩ := rfl
  rw [hw]
  clear hw hb hT hq
  refine fn_ret (N := _) Tryd.func57 rfl Tryd.ntmps57 Tryd.results57 (by simp) ?_
  simp only [initS, Nat.reduceAdd, Nat.zero_add]
  repeat' (first | (with_reducible refine then_normal ?_) | ((with_reducible refine then_ret ?_); clear hK K) | ((with_reducible refine then_exit ?_); clear hK K) | (with_reducible refine then_exit ?_) | (with_reducible refine then_ret ?_) | (with_reducible refine inB_normal ?_) | (with_reducible refine inB_ret ?_) | (with_reducible refine inB_here ?_) | (with_reducible refine inB_out (by decide) ?_) | ((with_reducible refine hK _ _ ?_); clear hK K) | ((with_reducible refine sel_fieldA ?_); first | refine wl_rd rfl rfl (RdV.rd (rd_fdO rfl rfl)) ?_ | refine wl_rd rfl rfl (RdV.rd (rd_fdA rfl rfl)) ?_) | ((with_reducible refine sel_load ?_); first | refine wl_rd rfl rfl (RdV.rd (rd_load rfl rfl ld_O)) ?_ | refine wl_rd rfl rfl (RdV.rd (rd_load rfl rfl ld_OR)) ?_ | refine wl_rd rfl rfl (RdV.rd (rd_load rfl rfl ld_wholeG)) ?_ | refine wl_rd rfl rfl (RdV.rd (rd_load rfl rfl ld_sg)) ?_ | refine wl_rd rfl rfl (RdV.rd (rd_load rfl rfl ld_sg1)) ?_ | refine wl_rd rfl rfl (RdV.rd (rd_load rfl rfl (ld_whole))) ?_ | refine wl_rd rfl rfl (RdV.rd (rd_load rfl rfl (ld_cell))) ?_ | refine wl_rd rfl rfl (RdV.rd (rd_load rfl rfl (ld_row))) ?_) | ((with_reducible refine sel_call ?_); first | (refine wl_appendB rfl rfl rfl rfl rfl ?_; intro v oa ho) | (refine wl_appendO rfl rfl rfl rfl rfl ?_; intro v oa ho) | refine wl_rd rfl rfl (rd_call rfl rfl rfl (fun w hm => by with_reducible exact WG w (hm.below rfl) (VwB.out w hm))) ?_ | refine wl_rd rfl rfl (RdV.rd (rd_lenO rfl rfl rfl rfl rfl)) ?_ | refine wl_rd rfl rfl (RdV.rd (rd_lenS rfl rfl rfl rfl rfl)) ?_) | ((with_reducible refine sel_store ?_); first | refine wl_store rfl rfl (sv_wholeG rfl rfl rfl) ?_ | refine wl_store rfl rfl (sv_sg rfl rfl rfl) ?_ | refine wl_store rfl rfl (sv_sg1 rfl rfl rfl) ?_ | refine wl_store rfl rfl (sv_whole rfl rfl rfl) ?_ | refine wl_store rfl rfl (sv_cell rfl rfl rfl rfl) ?_ | refine wl_store rfl rfl (sv_row rfl rfl rfl rfl) ?_ | refine wl_store rfl rfl (sv_cell rfl rfl rfl One.out) ?_ | refine wl_store rfl rfl (sv_row rfl rfl rfl (by simp only [List.all_cons, List.all_nil, One.out, Bool.and_true])) ?_) | ((with_reducible refine sel_alloc ?_); first | (refine wl_new rfl rfl (mk_allocG rfl) ?_; intro n hn) | (refine wl_new rfl rfl (mk_alloc rfl) ?_; intro n hn)) | ((with_reducible refine sel_move ?_); first | refine wl_rd rfl rfl (RdV.rd (rd_move rfl rfl)) ?_) | ((with_reducible refine sel_box ?_); first | (refine wl_new rfl rfl (mk_box rfl rfl) ?_; intro n hn)) | (refine wl_skip rfl rfl ?_) | ((with_reducible refine wc_seq ?_); intro K hK) | ((with_reducible refine wc_region ?_); (try simp only [List.append_eq, List.cons_append, List.nil_append])) | (with_reducible refine wc_block ?_) | (with_reducible refine wc_skip ?_) | (with_reducible refine wc_exit ?_) | (with_reducible refine wc_ret ?_) | (with_reducible refine wc_label ?_) | ((with_reducible refine sel_cond ?_); first | refine wc_true rfl ?_ | refine wc_false rfl ?_ | refine wc_cond rfl (fun hc => ?_) (fun hc => ?_)) | (with_reducible refine wl_nil ?_))
  first | refine end_ret (ResP.cell rfl ld_wholeG ResP.nil) ?_ | refine end_normal (ResP.cell rfl ld_wholeG ResP.nil) ?_
  first | rfl | (show _ = _; rfl) | (simp only [tupV, *]; done)
end Go.Proofs.YtdhoboilpngnaaaDoor
namespace Go.Proofs.YtdhoboilpngnaaaDoor
open Go.RowKit
attribute [local irreducible] rwA bys iw
set_option linter.unusedVariables false
set_option linter.unusedSimpArgs false
set_option maxRecDepth 100000 in
set_option maxHeartbeats 4000000 in
theorem msum_g (w : World) (hT : Tab w) (w' : World) (hb : Below w.heap.size w w') {st : MS} [h : MSo st] :
    Calls Tryd.prog 58 [mv st].toArray w' (Ret (.agg (bys st.sum)) w') := by
  have WG := write_g w' (hT.below hb)
  have SG := sum_g w' (hT.below hb)
  haveI : ByL st.inner.sum := inferInstance
  haveI : BLc 32 st.inner.sum := ⟨⟨sum_len h.inner.out, ByL.out⟩, by decide⟩
  have hw : st.sum = (st.outer.write st.inner.sum).sum := rfl
  rw [hw]
  clear hw hb hT
  refine fn_ret (N := _) Tryd.func58 rfl Tryd.ntmps58 Tryd.results58 (by simp) ?_
  simp only [initS, Nat.reduceAdd, Nat.zero_add]
  repeat' (first | (with_reducible refine then_normal ?_) | ((with_reducible refine then_ret ?_); clear hK K) | ((with_reducible refine then_exit ?_); clear hK K) | (with_reducible refine then_exit ?_) | (with_reducible refine then_ret ?_) | (with_reducible refine inB_normal ?_) | (with_reducible refine inB_ret ?_) | (with_reducible refine inB_here ?_) | (with_reducible refine inB_out (by decide) ?_) | ((with_reducible refine hK _ _ ?_); clear hK K) | ((with_reducible refine sel_fieldA ?_); first | refine wl_rd rfl rfl (RdV.rd (rd_fdO rfl rfl)) ?_ | refine wl_rd rfl rfl (RdV.rd (rd_fdA rfl rfl)) ?_) | ((with_reducible refine sel_load ?_); first | refine wl_rd rfl rfl (RdV.rd (rd_load rfl rfl ld_O)) ?_ | refine wl_rd rfl rfl (RdV.rd (rd_load rfl rfl ld_OR)) ?_ | refine wl_rd rfl rfl (RdV.rd (rd_load rfl rfl ld_wholeG)) ?_ | refine wl_rd rfl rfl (RdV.rd (rd_load rfl rfl ld_sg)) ?_ | refine wl_rd rfl rfl (RdV.rd (rd_load rfl rfl ld_sg1)) ?_ | refine wl_rd rfl rfl (RdV.rd (rd_load rfl rfl (ld_whole))) ?_ | refine wl_rd rfl rfl (RdV.rd (rd_load rfl rfl (ld_cell))) ?_ | refine wl_rd rfl rfl (RdV.rd (rd_load rfl rfl (ld_row))) ?_) | ((with_reducible refine sel_slice ?_); first | (refine wl_subB (lo := 0) rfl rfl rfl rfl rfl rfl rfl rfl ?_; intro v hv hp) | (refine wl_subB rfl rfl rfl rfl rfl rfl rfl rfl ?_; intro v hv hp) | (refine wl_sub (lo := 0) rfl rfl rfl rfl rfl rfl rfl rfl ?_; intro v hv hp) | (refine wl_sub rfl rfl rfl rfl rfl rfl rfl rfl ?_; intro v hv hp) | refine wl_rd rfl rfl (RdV.rd (rd_slA (lo := 0) rfl rfl rfl rfl rfl rfl)) ?_ | refine wl_rd rfl rfl (RdV.rd (rd_slA rfl rfl rfl rfl rfl rfl)) ?_) | ((with_reducible refine sel_call ?_); first | (refine wl_appendB rfl rfl rfl rfl rfl ?_; intro v oa ho) | (refine wl_appendO rfl rfl rfl rfl rfl ?_; intro v oa ho) | refine wl_rd rfl rfl (rd_call rfl rfl rfl (fun w hm => by with_reducible exact WG w (hm.below rfl) (VwB.out w hm))) ?_ | refine wl_rd rfl rfl (rd_call rfl rfl rfl (fun w hm => by with_reducible exact SG w (hm.below rfl))) ?_ | refine wl_rd rfl rfl (RdV.rd (rd_lenO rfl rfl rfl rfl rfl)) ?_ | refine wl_rd rfl rfl (RdV.rd (rd_lenS rfl rfl rfl rfl rfl)) ?_) | ((with_reducible refine sel_store ?_); first | refine wl_store rfl rfl (sv_wholeG rfl rfl rfl) ?_ | refine wl_store rfl rfl (sv_sg rfl rfl rfl) ?_ | refine wl_store rfl rfl (sv_sg1 rfl rfl rfl) ?_ | refine wl_store rfl rfl (sv_whole rfl rfl rfl) ?_ | refine wl_store rfl rfl (sv_cell rfl rfl rfl rfl) ?_ | refine wl_store rfl rfl (sv_row rfl rfl rfl rfl) ?_ | refine wl_store rfl rfl (sv_cell rfl rfl rfl One.out) ?_ | refine wl_store rfl rfl (sv_row rfl rfl rfl (by simp only [List.all_cons, List.all_nil, One.out, Bool.and_true])) ?_) | ((with_reducible refine sel_alloc ?_); first | (refine wl_new rfl rfl (mk_allocG rfl) ?_; intro n hn) | (refine wl_new rfl rfl (mk_allocC rfl) ?_; intro n hn) | (refine wl_new rfl rfl (mk_alloc rfl) ?_; intro n hn)) | ((with_reducible refine sel_box ?_); first | (refine wl_new rfl rfl (mk_box rfl rfl) ?_; intro n hn)) | (refine wl_skip rfl rfl ?_) | ((with_reducible refine wc_seq ?_); intro K hK) | ((with_reducible refine wc_region ?_); (try simp only [List.append_eq, List.cons_append, List.nil_append])) | (with_reducible refine wc_block ?_) | (with_reducible refine wc_skip ?_) | (with_reducible refine wc_exit ?_) | (with_reducible refine wc_ret ?_) | (with_reducible refine wc_label ?_) | ((with_reducible refine sel_cond ?_); first | refine wc_true rfl ?_ | refine wc_false rfl ?_ | refine wc_cond rfl (fun hc => ?_) (fun hc => ?_)) | (with_reducible refine wl_nil ?_) | ((with_reducible refine wc_drawT (by kernel_rfl) ?_); (try simp only [List.append_eq, List.cons_append, List.nil_append, List.length_cons, List.length_nil, Nat.reduceAdd])) | ((with_reducible refine sel_wh ?_); first | (refine wh_take (lq := []) rfl rfl rfl rfl (by first | ((with_reducible apply selr_fieldA); first | exact rd_fdO rfl rfl | exact rd_fdA rfl rfl) | ((with_reducible apply selr_load); first | exact rd_load rfl rfl ld_O | exact rd_load rfl rfl ld_OR | exact rd_load rfl rfl ld_wholeG | exact rd_load rfl rfl ld_sg | exact rd_load rfl rfl ld_sg1 | exact rd_load rfl rfl (ld_whole) | exact rd_load rfl rfl (ld_cell) | exact rd_load rfl rfl (ld_row)) | ((with_reducible apply selr_call); first | exact rd_lenO rfl rfl rfl rfl rfl | exact rd_lenS rfl rfl rfl rfl rfl) | ((with_reducible apply selr_slice); first | exact rd_slA (lo := 0) rfl rfl rfl rfl rfl rfl | exact rd_slA rfl rfl rfl rfl rfl rfl)) (Or.inl rfl) ?_) | (refine wh_take rfl rfl rfl rfl (by first | ((with_reducible apply selr_fieldA); first | exact rd_fdO rfl rfl | exact rd_fdA rfl rfl) | ((with_reducible apply selr_load); first | exact rd_load rfl rfl ld_O | exact rd_load rfl rfl ld_OR | exact rd_load rfl rfl ld_wholeG | exact rd_load rfl rfl ld_sg | exact rd_load rfl rfl ld_sg1 | exact rd_load rfl rfl (ld_whole) | exact rd_load rfl rfl (ld_cell) | exact rd_load rfl rfl (ld_row)) | ((with_reducible apply selr_call); first | exact rd_lenO rfl rfl rfl rfl rfl | exact rd_lenS rfl rfl rfl rfl rfl) | ((with_reducible apply selr_slice); first | exact rd_slA (lo := 0) rfl rfl rfl rfl rfl rfl | exact rd_slA rfl rfl rfl rfl rfl rfl)) (Or.inr ⟨rfl, by decide +kernel⟩) ?_) | (refine wh_pass rfl rfl rfl rfl ?_) | (refine wh_subB (lo := 0) rfl rfl rfl rfl rfl rfl rfl rfl rfl rfl ?_; intro v hv hp) | (refine wh_subB rfl rfl rfl rfl rfl rfl rfl rfl rfl rfl ?_; intro v hv hp) | (refine wh_sub (lo := 0) rfl rfl rfl rfl rfl rfl rfl rfl rfl rfl ?_; intro v hv hp) | (refine wh_sub rfl rfl rfl rfl rfl rfl rfl rfl rfl rfl ?_; intro v hv hp) | (refine wh_done rfl ?_) | (refine wh_all rfl ?_)) | ((with_reducible refine sel_rest ?_); first | exact rest_nil rfl | refine rest_cons rfl rfl ?_ ?_) | ((with_reducible refine sel_nx ?_); first | refine next_of ?_ | refine next_late (by decide +kernel) ?_))
  first | refine end_ret (ResP.cell rfl ld_whole ResP.nil) ?_ | refine end_normal (ResP.cell rfl ld_whole ResP.nil) ?_
  first | rfl | (show _ = _; rfl) | (simp only [tupV, *]; done)
end Go.Proofs.YtdhoboilpngnaaaDoor
namespace Go.Proofs.YtdhoboilpngnaaaDoor
open Go.RowKit
attribute [local irreducible] rwA bys iw
set_option linter.unusedVariables false
set_option linter.unusedSimpArgs false
theorem mnew_g (w : World) (hT : Tab w) (w' : World) (hb : Below w.heap.size w w') {v : Value} {n : Nat} {p : List Nat} (hq : Cb w' v n p) :
    Calls Tryd.prog 56 [v].toArray w' (Ret (mv (newM p)) w') := mnew_c w' (hT.below hb) hq
theorem newM_ok {key : List Nat} (h : ∀ x ∈ key, x < 256) : MSo (newM key) := by
  have hkb := keyL_byte key h
  haveI : ByL (xorL (keyL key) 54) := ⟨xorL_byte _ (by decide) hkb⟩
  haveI : ByL (xorL (keyL key) 92) := ⟨xorL_byte _ (by decide) hkb⟩
  exact ⟨inferInstanceAs (HSo (newH.write (xorL (keyL key) 54))), inferInstanceAs (HSo (newH.write (xorL (keyL key) 92)))⟩
instance {key : List Nat} [h : ByL key] : MSo (newM key) := newM_ok h.out
instance {key p : List Nat} [ByL key] [ByL p] : NBy (mark key p) 32 := inferInstanceAs (NBy ((newM key).write p).sum 32)
instance {key p : List Nat} : ByL (mark key p) := inferInstanceAs (ByL ((newM key).write p).sum)
set_option maxRecDepth 100000 in
set_option maxHeartbeats 4000000 in
theorem mark_g (w : World) (hT : Tab w) (w' : World) (hb : Below w.heap.size w w') {u : Value} {m : Nat} {key : List Nat} (hk : Cb w' u m key) {v : Value} {n : Nat} {p : List Nat} (hq : Cb w' v n p) :
    Calls Tryd.prog 30 [u, v].toArray w' (Ret (.agg (bys (mark key p))) w') := by
  have NG := mnew_g w' (hT.below hb)
  have WG := mwrite_g w' (hT.below hb)
  have SG := msum_g w' (hT.below hb)
  have i1 := hq.old
  have i2 := hk.old
  haveI : ByL p := ⟨hq.ok.by'⟩
  haveI : ByL key := ⟨hk.ok.by'⟩
  have hw : mark key p = ((newM key).write p).sum := rfl
  rw [hw]
  clear hw hb hT hq hk
  refine fn_ret (N := _) Tryd.func30 rfl Tryd.ntmps30 Tryd.results30 (by simp) ?_
  simp only [initS, Nat.reduceAdd, Nat.zero_add]
  repeat' (first | (with_reducible refine then_normal ?_) | ((with_reducible refine then_ret ?_); clear hK K) | ((with_reducible refine then_exit ?_); clear hK K) | (with_reducible refine then_exit ?_) | (with_reducible refine then_ret ?_) | (with_reducible refine inB_normal ?_) | (with_reducible refine inB_ret ?_) | (with_reducible refine inB_here ?_) | (with_reducible refine inB_out (by decide) ?_) | ((with_reducible refine hK _ _ ?_); clear hK K) | ((with_reducible refine sel_call ?_); first | (refine wl_appendB rfl rfl rfl rfl rfl ?_; intro v oa ho) | (refine wl_appendO rfl rfl rfl rfl rfl ?_; intro v oa ho) | refine wl_rd rfl rfl (rd_call rfl rfl rfl (fun w hm => by with_reducible exact NG w (hm.below rfl) (VwB.out w hm))) ?_ | refine wl_rd rfl rfl (rd_call rfl rfl rfl (fun w hm => by with_reducible exact WG w (hm.below rfl) (VwB.out w hm))) ?_ | refine wl_rd rfl rfl (rd_call rfl rfl rfl (fun w hm => by with_reducible exact SG w (hm.below rfl))) ?_ | refine wl_rd rfl rfl (RdV.rd (rd_lenO rfl rfl rfl rfl rfl)) ?_ | refine wl_rd rfl rfl (RdV.rd (rd_lenS rfl rfl rfl rfl rfl)) ?_) | ((with_reducible refine sel_store ?_); first | refine wl_store rfl rfl (sv_wholeG rfl rfl rfl) ?_ | refine wl_store rfl rfl (sv_sg rfl rfl rfl) ?_ | refine wl_store rfl rfl (sv_sg1 rfl rfl rfl) ?_ | refine wl_store rfl rfl (sv_whole rfl rfl rfl) ?_ | refine wl_store rfl rfl (sv_cell rfl rfl rfl rfl) ?_ | refine wl_store rfl rfl (sv_row rfl rfl rfl rfl) ?_ | refine wl_store rfl rfl (sv_cell rfl rfl rfl One.out) ?_ | refine wl_store rfl rfl (sv_row rfl rfl rfl (by simp only [List.all_cons, List.all_nil, One.out, Bool.and_true])) ?_) | ((with_reducible refine sel_alloc ?_); first | (refine wl_new rfl rfl (mk_allocG rfl) ?_; intro n hn) | (refine wl_new rfl rfl (mk_allocC rfl) ?_; intro n hn) | (refine wl_new rfl rfl (mk_alloc rfl) ?_; intro n hn)) | ((with_reducible refine sel_move ?_); first | refine wl_rd rfl rfl (RdV.rd (rd_move rfl rfl)) ?_) | (refine wl_skip rfl rfl ?_) | ((with_reducible refine wc_seq ?_); intro K hK) | ((with_reducible refine wc_region ?_); (try simp only [List.append_eq, List.cons_append, List.nil_append])) | (with_reducible refine wc_block ?_) | (with_reducible refine wc_skip ?_) | (with_reducible refine wc_exit ?_) | (with_reducible refine wc_ret ?_) | (with_reducible refine wc_label ?_) | ((with_reducible refine sel_cond ?_); first | refine wc_true rfl ?_ | refine wc_false rfl ?_ | refine wc_cond rfl (fun hc => ?_) (fun hc => ?_)) | (with_reducible refine wl_nil ?_))
  first | refine end_ret (ResP.cell rfl ld_whole ResP.nil) ?_ | refine end_normal (ResP.cell rfl ld_whole ResP.nil) ?_
  first | rfl | (show _ = _; rfl) | (simp only [tupV, *]; done)
end Go.Proofs.YtdhoboilpngnaaaDoor
