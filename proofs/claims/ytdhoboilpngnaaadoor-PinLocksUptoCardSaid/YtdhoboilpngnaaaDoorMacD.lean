/- The package mac, walked: Sum. -/
import Derived.Test.YtdhoboilpngnaaaDoorMacB
import Derived.Test.YtdhoboilpngnaaaDoorMacC
namespace Go.Proofs.YtdhoboilpngnaaaDoor
open Go.RowKit
attribute [local irreducible] rwA bys iw
set_option linter.unusedVariables false
set_option linter.unusedSimpArgs false
theorem mnew_g (w : World) (hT : Tab w) (w' : World) (hb : Below w.heap.size w w') {v : Value} {n : Nat} {p : List Nat} (hq : Cb w' v n p) :
    Calls Tryd.prog 56 [v].toArray w' (Ret (mv (newM p)) w') := mnew_c w' (hT.below hb) hq
theorem newM_ok {key : List Nat} (h : ∀ x ∈ key, x < 256) : MSo (newM key) := by
  have hkb := keyL_byte key h
  haveI : ByL (xorL (keyL key) 54) := ⟨xorL_byte _ (by decide) hkb⟩
  haveI : ByL (xorL (keyL key) 92) := ⟨xorL_byte _ (by decide) hkb⟩
  exact ⟨inferInstanceAs (HSo (newH.write (xorL (keyL key) 54))), inferInstanceAs (HSo (newH.write (xorL (keyL key) 92)))⟩
instance {key : List Nat} [h : ByL key] : MSo (newM key) := newM_ok h.out
instance {key p : List Nat} [ByL key] [ByL p] : NBy (mark key p) 32 := inferInstanceAs (NBy ((newM key).write p).sum 32)
instance {key p : List Nat} : ByL (mark key p) := inferInstanceAs (ByL ((newM key).write p).sum)
set_option maxRecDepth 100000 in
set_option maxHeartbeats 4000000 in
theorem mark_g (w : World) (hT : Tab w) (w' : World) (hb : Below w.heap.size w w') {u : Value} {m : Nat} {key : List Nat} (hk : Cb w' u m key) {v : Value} {n : Nat} {p : List Nat} (hq : Cb w' v n p) :
    Calls Tryd.prog 30 [u, v].toArray w' (Ret (.agg (bys (mark key p))) w') := by
  have NG := mnew_g w' (hT.below hb)
  have WG := mwrite_g w' (hT.below hb)
  have SG := msum_g w' (hT.below hb)
  have i1 := hq.old
  have i2 := hk.old
  haveI : ByL p := ⟨hq.ok.by'⟩
  haveI : ByL key := ⟨hk.ok.by'⟩
  have hw : mark key p = ((newM key).write p).sum := rfl
  rw [hw]
  clear hw hb hT hq hk
  refine fn_ret (N := _) Tryd.func30 rfl Tryd.ntmps30 Tryd.results30 (by simp) ?_
  simp only [initS, Nat.reduceAdd, Nat.zero_add]
  repeat' (first | (with_reducible refine then_normal ?_) | ((with_reducible refine then_ret ?_); clear hK K) | ((with_reducible refine then_exit ?_); clear hK K) | (with_reducible refine then_exit ?_) | (with_reducible refine then_ret ?_) | (with_reducible refine inB_normal ?_) | (with_reducible refine inB_ret ?_) | (with_reducible refine inB_here ?_) | (with_reducible refine inB_out (by decide) ?_) | ((with_reducible refine hK _ _ ?_); clear hK K) | ((with_reducible refine sel_call ?_); first | (refine wl_appendB rfl rfl rfl rfl rfl ?_; intro v oa ho) | (refine wl_appendO rfl rfl rfl rfl rfl ?_; intro v oa ho) | refine wl_rd rfl rfl (rd_call rfl rfl rfl (fun w hm => by with_reducible exact NG w (hm.below rfl) (VwB.out w hm))) ?_ | refine wl_rd rfl rfl (rd_call rfl rfl rfl (fun w hm => by with_reducible exact WG w (hm.below rfl) (VwB.out w hm))) ?_ | refine wl_rd rfl rfl (rd_call rfl rfl rfl (fun w hm => by with_reducible exact SG w (hm.below rfl))) ?_ | refine wl_rd rfl rfl (RdV.rd (rd_lenO rfl rfl rfl rfl rfl)) ?_ | refine wl_rd rfl rfl (RdV.rd (rd_lenS rfl rfl rfl rfl rfl)) ?_) | ((with_reducible refine sel_store ?_); first | refine wl_store rfl rfl (sv_wholeG rfl rfl rfl) ?_ | refine wl_store rfl rfl (sv_sg rfl rfl rfl) ?_ | refine wl_store rfl rfl (sv_sg1 rfl rfl rfl) ?_ | refine wl_store rfl rfl (sv_whole rfl rfl rfl) ?_ | refine wl_store rfl rfl (sv_cell rfl rfl rfl rfl) ?_ | refine wl_store rfl rfl (sv_row rfl rfl rfl rfl) ?_ | refine wl_store rfl rfl (sv_cell rfl rfl rfl One.out) ?_ | refine wl_store rfl rfl (sv_row rfl rfl rfl (by simp only [List.all_cons, List.all_nil, One.out, Bool.and_true])) ?_) | ((with_reducible refine sel_alloc ?_); first | (refine wl_new rfl rfl (mk_allocG rfl) ?_; intro n hn) | (refine wl_new rfl rfl (mk_allocC rfl) ?_; intro n hn) | (refine wl_new rfl rfl (mk_alloc rfl) ?_; intro n hn)) | ((with_reducible refine sel_move ?_); first | refine wl_rd rfl rfl (RdV.rd (rd_move rfl rfl)) ?_) | (refine wl_skip rfl rfl ?_) | ((with_reducible refine wc_seq ?_); intro K hK) | ((with_reducible refine wc_region ?_); (try simp only [List.append_eq, List.cons_append, List.nil_append])) | (with_reducible refine wc_block ?_) | (with_reducible refine wc_skip ?_) | (with_reducible refine wc_exit ?_) | (with_reducible refine wc_ret ?_) | (with_reducible refine wc_label ?_) | ((with_reducible refine sel_cond ?_); first | refine wc_true rfl ?_ | refine wc_false rfl ?_ | refine wc_cond rfl (fun hc => ?_) (fun hc => ?_)) | (with_reducible refine wl_nil ?_))
  first | refine end_ret (ResP.cell rfl ld_whole ResP.nil) ?_ | refine end_normal (ResP.cell rfl ld_whole ResP.nil) ?_
  first | rfl | (show _ = _; rfl) | (simp only [tupV, *]; done)
end Go.Proofs.YtdhoboilpngnaaaDoor
