/- ModeBack: the walk. -/
import Derived.Test.YtdmmbkhnhfcmcaaModeL
namespace Go.Proofs.Ytdmmbkhnhfcmcaa.ModeBackWalk
open Go.RowKit
attribute [local irreducible] rwA bys
set_option linter.unusedVariables false
set_option linter.unusedSimpArgs false
set_option maxRecDepth 100000
set_option maxHeartbeats 4000000 in
theorem walk (w : World) {kz : Value} {m : Nat} {p : List Nat} (h0 : Cb w kz m p) {u : Value} {iv : List Nat} (h1 : ArB 16 u iv) {v2 : Value} {k : Nat} {q : List Nat} (h2 : Cb w v2 k q) (hk : k ≤ 1048576) :
    Calls Try.prog 13 [kz, u, v2].toArray w (Ret (.bool true) w) := by
  have i0 := h0.old
  have i2 := h2.old
  obtain ⟨rfl, hil, hib⟩ := h1
  have hi := B16.of hil hib
  haveI : NBy iv 16 := ⟨hil⟩
  by_cases hm : m = 16 ∨ m = 24 ∨ m = 32
  · obtain ⟨n, rfl, hn⟩ := key_len hm
    have EX := fun w' (h : Cb w' kz (4 * n) p) => exp_c w' hn h
    haveI hkk : AKey (expW n p) := expW_ok h0.ok.len h0.ok.by' (by omega) (by omega)
    have hR : n + 6 ≤ 14 := by omega
    have ed := edok hkk.ok (n + 6)
    have EN : ∀ b, B16 b → ∀ w, Calls Try.prog 19 [kv (expW n p) (n + 6), .agg (bys b)].toArray w (Ret (.agg (bys (encL (expW n p) (n + 6) b))) w) := fun b hb w => enc_c w hR hb
    have DE : ∀ b, B16 b → ∀ w, Calls Try.prog 20 [kv (expW n p) (n + 6), .agg (bys b)].toArray w (Ret (.agg (bys (decL (expW n p) (n + 6) b))) w) := fun b hb w => dec_c w hR hb
    haveI : SgOk (sgA (expW n p) (n + 6)) := inferInstance
    have hql := h2.ok.len
    have hqb := h2.ok.by'
    have SE := fun w' (h : Cb w' v2 k q) => seal_c w' ed EN hi (by omega) h
    have hpl := padP_len q
    have hpb := padP_byl hqb
    have hN := padN_le q
    have hlp := padP_len' q
    rw [hql] at hpl hlp
    have hop := open_seal ed hi hpb hpl
    have OB : ∀ {u : Value} w', Cb w' u (16 * (k / 16 + 1)) (cflat (encL (expW n p) (n + 6)) iv (padP q) (k / 16 + 1)) → Calls Try.prog 27 [kv (expW n p) (n + 6), .agg (bys iv), u].toArray w' (RetO (fun v : Value => .tuple #[v, .int .i64 0]) (fun v oa => CsB (Hd oa) v k q) w') :=
      fun w' h => open_yes w' ed DE hi (by omega) (by omega) h (by rw [hop]; exact endOk_pad q) (by rw [hop, endN_pad]; omega) (by rw [hop]; have := pad_front q; rwa [hql] at this)
    have qq : (q == q) = true := by simp
    have t1 : ((16 * (k / 16 + 1) : Nat) : Int).tmod 16 = 0 := by rw [Int.tmod_eq_emod_of_nonneg (by omega)]; omega
    have t2 : ((0 : Int) == 0) = true := rfl
    have t3 : decide (((16 * (k / 16 + 1) : Nat) : Int) > (k : Int)) = true := decide_eq_true (by omega)
    have t4 : IntKind.i64.wrap ((k : Int) + 16) = ((k + 16 : Nat) : Int) := by rw [wrap_i64 _ (by omega) (by omega)]; omega
    have t5 : decide (((16 * (k / 16 + 1) : Nat) : Int) ≤ ((k + 16 : Nat) : Int)) = true := decide_eq_true (by omega)
    clear h0 h2 hm hn ed hkk hR EN DE hop hpl hpb hN hlp
    generalize 16 * (k / 16 + 1) = L at *
    generalize n + 6 = R at *
    generalize hC : cflat (encL (expW n p) R) iv (padP q) (k / 16 + 1) = C at *
    clear hC
    generalize expW n p = W at *
    refine fn_ret (N := _) Try.func13 rfl Try.ntmps13 Try.results13 (by simp) ?_
    simp only [initS, Nat.reduceAdd, Nat.zero_add]
    repeat' (first | (with_reducible refine then_normal ?_) | ((with_reducible refine then_ret ?_); clear hK K) | ((with_reducible refine then_exit ?_); clear hK K) | (with_reducible refine then_exit ?_) | (with_reducible refine then_ret ?_) | (with_reducible refine inB_normal ?_) | (with_reducible refine inB_ret ?_) | (with_reducible refine inB_here ?_) | (with_reducible refine inB_out (by decide) ?_) | ((with_reducible refine hK _ _ ?_); clear hK K) | ((with_reducible refine sel_load ?_); first | refine wl_rd rfl rfl (RdV.rd (rd_load rfl rfl ld_O)) ?_ | refine wl_rd rfl rfl (RdV.rd (rd_load rfl rfl ld_OR)) ?_ | refine wl_rd rfl rfl (RdV.rd (rd_load rfl rfl ld_wholeG)) ?_ | refine wl_rd rfl rfl (RdV.rd (rd_load rfl rfl ld_sg)) ?_ | refine wl_rd rfl rfl (RdV.rd (rd_load rfl rfl ld_sg1)) ?_ | refine wl_rd rfl rfl (RdV.rd (rd_load rfl rfl (ld_whole))) ?_ | refine wl_rd rfl rfl (RdV.rd (rd_load rfl rfl (ld_cell))) ?_ | refine wl_rd rfl rfl (RdV.rd (rd_load rfl rfl (ld_row))) ?_) | ((with_reducible refine sel_call ?_); first | (refine wl_appendB rfl rfl rfl rfl rfl ?_; intro v oa ho) | (refine wl_appendO rfl rfl rfl rfl rfl ?_; intro v oa ho) | refine wl_rd rfl rfl (rd_call rfl rfl rfl (fun w hm => by with_reducible exact EX w (VwB.out w hm))) ?_ | (refine wl_newO rfl rfl rfl rfl rfl (fun w hm => by with_reducible exact SE w (VwB.out w hm)) ?_; intro x oa hx) | (refine wl_newO rfl rfl rfl rfl rfl (fun w hm => by with_reducible exact OB w (VwB.out w hm)) ?_; intro x oa hx) | refine wl_rd rfl rfl (rd_call rfl rfl rfl (fun w hm => by with_reducible exact beq_r w (VwB.out w hm) (VwB.out w hm) (by with_reducible assumption))) ?_ | refine wl_rd rfl rfl (RdV.rd (rd_lenO rfl rfl rfl rfl rfl)) ?_ | refine wl_rd rfl rfl (RdV.rd (rd_lenS rfl rfl rfl rfl rfl)) ?_) | ((with_reducible refine sel_b_eql ?_); first | refine wl_rd rfl rfl (RdV.rd (rd_eqlS rfl rfl rfl)) ?_ | refine wl_rd rfl rfl (RdV.rd (rd_cm rfl rfl rfl rfl)) ?_ | refine wl_rd rfl rfl (RdV.rd (rd_eqlB rfl rfl rfl (by first | with_reducible assumption | rfl))) ?_) | ((with_reducible refine sel_store ?_); first | refine wl_store rfl rfl (sv_wholeG rfl rfl rfl) ?_ | refine wl_store rfl rfl (sv_sg rfl rfl rfl) ?_ | refine wl_store rfl rfl (sv_sg1 rfl rfl rfl) ?_ | refine wl_store rfl rfl (sv_whole rfl rfl rfl) ?_ | refine wl_store rfl rfl (sv_cell rfl rfl rfl rfl) ?_ | refine wl_store rfl rfl (sv_row rfl rfl rfl rfl) ?_ | refine wl_store rfl rfl (sv_cell rfl rfl rfl One.out) ?_ | refine wl_store rfl rfl (sv_row rfl rfl rfl (by simp only [List.all_cons, List.all_nil, One.out, Bool.and_true])) ?_) | ((with_reducible refine sel_alloc ?_); first | (refine wl_new rfl rfl (mk_allocG rfl) ?_; intro n hn) | (refine wl_new rfl rfl (mk_allocC rfl) ?_; intro n hn) | (refine wl_new rfl rfl (mk_alloc rfl) ?_; intro n hn)) | ((with_reducible refine sel_move ?_); first | refine wl_rd rfl rfl (RdV.rd (rd_move rfl rfl)) ?_) | ((with_reducible refine sel_assign ?_); first | refine wl_rd rfl rfl (RdV.rd (rd_assign rfl rfl)) ?_) | ((with_reducible refine sel_pick ?_); first | refine wl_rd rfl rfl (RdV.rd (rd_pick rfl rfl rfl rfl rfl)) ?_) | ((with_reducible refine sel_extract ?_); first | refine wl_rd rfl rfl (RdV.rd (rd_extract rfl rfl)) ?_) | ((with_reducible refine sel_b_leq ?_); first | refine wl_rd rfl rfl (RdV.rd (rd_cm rfl rfl rfl rfl)) ?_) | ((with_reducible refine sel_b_gtr ?_); first | refine wl_rd rfl rfl (RdV.rd (rd_cm rfl rfl rfl rfl)) ?_) | ((with_reducible refine sel_b_neq ?_); first | refine wl_rd rfl rfl (RdV.rd (rd_cm rfl rfl rfl rfl)) ?_) | ((with_reducible refine sel_b_add ?_); first | refine wl_rd rfl rfl (RdV.rd (rd_ar rfl rfl rfl rfl)) ?_) | ((with_reducible refine sel_b_rem ?_); first | refine wl_rd rfl rfl (RdV.rd (rd_rem rfl rfl rfl)) ?_) | ((with_reducible refine sel_box ?_); first | (refine wl_new rfl rfl (mk_box rfl rfl) ?_; intro n hn)) | (refine wl_skip rfl rfl ?_) | ((with_reducible refine wc_seq ?_); intro K hK) | ((with_reducible refine wc_region ?_); (try simp only [List.append_eq, List.cons_append, List.nil_append])) | (with_reducible refine wc_block ?_) | (with_reducible refine wc_skip ?_) | (with_reducible refine wc_exit ?_) | (with_reducible refine wc_ret ?_) | (with_reducible refine wc_label ?_) | ((with_reducible refine sel_cond ?_); first | refine wc_true rfl ?_ | refine wc_false rfl ?_ | refine wc_cond rfl (fun hc => ?_) (fun hc => ?_)) | (with_reducible refine wl_nil ?_))
    first | refine end_ret (ResP.tmp rfl ResP.nil) ?_ | refine end_normal (ResP.tmp rfl ResP.nil) ?_
    first | rfl | (show _ = _; rfl) | (simp only [tupV, *]; done)
  · have EX := fun w' (h : Cb w' kz m p) => exp_no w' hm h
    clear h0
    refine fn_ret (N := _) Try.func13 rfl Try.ntmps13 Try.results13 (by simp) ?_
    simp only [initS, Nat.reduceAdd, Nat.zero_add]
    repeat' (first | (with_reducible refine then_normal ?_) | ((with_reducible refine then_ret ?_); clear hK K) | ((with_reducible refine then_exit ?_); clear hK K) | (with_reducible refine then_exit ?_) | (with_reducible refine then_ret ?_) | (with_reducible refine inB_normal ?_) | (with_reducible refine inB_ret ?_) | (with_reducible refine inB_here ?_) | (with_reducible refine inB_out (by decide) ?_) | ((with_reducible refine hK _ _ ?_); clear hK K) | ((with_reducible refine sel_load ?_); first | refine wl_rd rfl rfl (RdV.rd (rd_load rfl rfl ld_O)) ?_ | refine wl_rd rfl rfl (RdV.rd (rd_load rfl rfl ld_OR)) ?_ | refine wl_rd rfl rfl (RdV.rd (rd_load rfl rfl ld_wholeG)) ?_ | refine wl_rd rfl rfl (RdV.rd (rd_load rfl rfl ld_sg)) ?_ | refine wl_rd rfl rfl (RdV.rd (rd_load rfl rfl ld_sg1)) ?_ | refine wl_rd rfl rfl (RdV.rd (rd_load rfl rfl (ld_whole))) ?_ | refine wl_rd rfl rfl (RdV.rd (rd_load rfl rfl (ld_cell))) ?_ | refine wl_rd rfl rfl (RdV.rd (rd_load rfl rfl (ld_row))) ?_) | ((with_reducible refine sel_call ?_); first | (refine wl_appendB rfl rfl rfl rfl rfl ?_; intro v oa ho) | (refine wl_appendO rfl rfl rfl rfl rfl ?_; intro v oa ho) | refine wl_rd rfl rfl (rd_call rfl rfl rfl (fun w hm => by with_reducible exact EX w (VwB.out w hm))) ?_ | refine wl_rd rfl rfl (RdV.rd (rd_lenO rfl rfl rfl rfl rfl)) ?_ | refine wl_rd rfl rfl (RdV.rd (rd_lenS rfl rfl rfl rfl rfl)) ?_) | ((with_reducible refine sel_b_eql ?_); first | refine wl_rd rfl rfl (RdV.rd (rd_eqlS rfl rfl rfl)) ?_ | refine wl_rd rfl rfl (RdV.rd (rd_cm rfl rfl rfl rfl)) ?_ | refine wl_rd rfl rfl (RdV.rd (rd_eqlB rfl rfl rfl (by first | with_reducible assumption | rfl))) ?_) | ((with_reducible refine sel_store ?_); first | refine wl_store rfl rfl (sv_wholeG rfl rfl rfl) ?_ | refine wl_store rfl rfl (sv_sg rfl rfl rfl) ?_ | refine wl_store rfl rfl (sv_sg1 rfl rfl rfl) ?_ | refine wl_store rfl rfl (sv_whole rfl rfl rfl) ?_ | refine wl_store rfl rfl (sv_cell rfl rfl rfl rfl) ?_ | refine wl_store rfl rfl (sv_row rfl rfl rfl rfl) ?_ | refine wl_store rfl rfl (sv_cell rfl rfl rfl One.out) ?_ | refine wl_store rfl rfl (sv_row rfl rfl rfl (by simp only [List.all_cons, List.all_nil, One.out, Bool.and_true])) ?_) | ((with_reducible refine sel_alloc ?_); first | (refine wl_new rfl rfl (mk_allocG rfl) ?_; intro n hn) | (refine wl_new rfl rfl (mk_allocC rfl) ?_; intro n hn) | (refine wl_new rfl rfl (mk_alloc rfl) ?_; intro n hn)) | ((with_reducible refine sel_move ?_); first | refine wl_rd rfl rfl (RdV.rd (rd_move rfl rfl)) ?_) | ((with_reducible refine sel_assign ?_); first | refine wl_rd rfl rfl (RdV.rd (rd_assign rfl rfl)) ?_) | ((with_reducible refine sel_pick ?_); first | refine wl_rd rfl rfl (RdV.rd (rd_pick rfl rfl rfl rfl rfl)) ?_) | ((with_reducible refine sel_extract ?_); first | refine wl_rd rfl rfl (RdV.rd (rd_extract rfl rfl)) ?_) | ((with_reducible refine sel_b_leq ?_); first | refine wl_rd rfl rfl (RdV.rd (rd_cm rfl rfl rfl rfl)) ?_) | ((with_reducible refine sel_b_gtr ?_); first | refine wl_rd rfl rfl (RdV.rd (rd_cm rfl rfl rfl rfl)) ?_) | ((with_reducible refine sel_b_neq ?_); first | refine wl_rd rfl rfl (RdV.rd (rd_cm rfl rfl rfl rfl)) ?_) | ((with_reducible refine sel_b_add ?_); first | refine wl_rd rfl rfl (RdV.rd (rd_ar rfl rfl rfl rfl)) ?_) | ((with_reducible refine sel_b_rem ?_); first | refine wl_rd rfl rfl (RdV.rd (rd_rem rfl rfl rfl)) ?_) | ((with_reducible refine sel_box ?_); first | (refine wl_new rfl rfl (mk_box rfl rfl) ?_; intro n hn)) | (refine wl_skip rfl rfl ?_) | ((with_reducible refine wc_seq ?_); intro K hK) | ((with_reducible refine wc_region ?_); (try simp only [List.append_eq, List.cons_append, List.nil_append])) | (with_reducible refine wc_block ?_) | (with_reducible refine wc_skip ?_) | (with_reducible refine wc_exit ?_) | (with_reducible refine wc_ret ?_) | (with_reducible refine wc_label ?_) | ((with_reducible refine sel_cond ?_); first | refine wc_true rfl ?_ | refine wc_false rfl ?_ | refine wc_cond rfl (fun hc => ?_) (fun hc => ?_)) | (with_reducible refine wl_nil ?_))
    first | refine end_ret (ResP.tmp rfl ResP.nil) ?_ | refine end_normal (ResP.tmp rfl ResP.nil) ?_
    first | rfl | (show _ = _; rfl) | (simp only [tupV, *]; done)
end Go.Proofs.Ytdmmbkhnhfcmcaa.ModeBackWalk
