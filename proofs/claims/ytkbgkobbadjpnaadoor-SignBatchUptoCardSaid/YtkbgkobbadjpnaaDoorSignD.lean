/- The package sign, walked: claim of what may be right. -/
import Derived.Test.YtkbgkobbadjpnaaDoorSignC
namespace Go.Proofs.YtkbgkobbadjpnaaDoor
open Go.RowKit
attribute [local irreducible] rwA bys iw
set_option linter.unusedVariables false
set_option linter.unusedSimpArgs false
set_option maxRecDepth 100000
set_option maxHeartbeats 16000000 in
theorem claim_ok (w : World) (hT : Tab w) (w' : World) (hb : Below w.heap.size w w') (k f s : Nat) (hk : k < T256) (hf : f < T256) (hs : s < T256) (hok : clOk k f s) {v : Value} {n : Nat} {p : List Nat} (hq : Cb w' v n p) (hn : n ≤ 1048576) {u : Value} (hsig : Cb w' u 64 (lb f ++ lb s)) :
    Calls Tryd.prog 37 [.agg (bys (lb k)), v, u].toArray w' (Ret (.tuple #[nu s, pv (tP k f p), .int .i64 0]) w') := by
  have hT' := hT.below hb
  have i1 := hsig.old
  have i2 := hq.old
  have t1 : ((64 : Int) != 64) = false := rfl
  obtain ⟨q1, q2, q3⟩ := sig_parts f s
  have hl1 : 0 + 32 ≤ (List.replicate 32 0).length := by simp
  have k1 : Nat.min 64 32 = 32 := rfl
  have k2 : Nat.min 32 32 = 32 := rfl
  have U1 := unpack_yes hk hok.1
  have U2 := unpack_yes hf hok.2.1
  simp only [bv_lb] at U1 U2
  have OF := of_lb s hs
  have LC := l_c
  have CC := cmp_nu s SLn hs SL_T
  have z0 : ((0 : Int) != 0) = false := rfl
  have s3 : decide (cmpI s SLn ≥ 0) = false := decide_eq_false (by have := hok.2.2; unfold cmpI; rw [if_pos (by omega)]; decide)
  have CH : ∀ w'', Below w'.heap.size w' w'' → Cb w'' v n p → Calls Tryd.prog 46 [.agg (bys (lb f)), .agg (bys (lb k)), v].toArray w'' (Ret (nu (chal f k p)) w'') := fun w'' h1 h2 => chal_c w' hT' w'' h1 _ _ h2 hn
  have on1 := up_on hk hok.1
  have on2 := up_on hf hok.2.1
  have TC := times_yes (chal f k p) (dgN_lt _ _) on1.red.lt on1
  have on3 := times_on on1 (chal f k p)
  have AC := add_yes on2.red.lt on2 on3.red.lt on3
  have e : (upPt f).add ((upPt k).times (chal f k p)) = tP k f p := rfl
  rw [e] at AC
  clear hsig hq hT hb hT' on1 on2 on3 e hok hk hf hs
  generalize cmpI s SLn = cz at *
  generalize SLn = sl at *
  generalize tP k f p = T at *
  generalize (upPt k).times (chal f k p) = P3 at *
  generalize upPt k = P1 at *
  generalize upPt f = P2 at *
  generalize chal f k p = C at *
  refine fn_ret (N := _) Tryd.func37 rfl Tryd.ntmps37 Tryd.results37 (by simp) ?_
  simp only [initS, Nat.reduceAdd, Nat.zero_add]
  repeat' (first | (refine wlS ?_) | (refine wlB ?_) | (refine wlNB ?_) | (refine wlE ?_) | (refine efSvvp ?_; intro v hv hp) | (refine efSvao ?_; intro v oa ho) | (refine efM ?_) | (refine efMvao ?_; intro v oa ho) | ((with_reducible refine sel_store ?_); first | (refine wl_putB (e := 5) rfl rfl rfl rfl rfl ?_; intro oa ho)) | ((with_reducible refine sel_slice ?_); first | (refine wl_subB (lo := 32) rfl rfl rfl rfl rfl rfl rfl rfl ?_; intro v hv hp)) | (refine efZCnn ?_; intro n hn) | (refine efBnn ?_; intro n hn) | (refine efB ?_) | (refine efBS ?_) | (refine wl_skip rfl rfl ?_) | ((with_reducible refine wc_seq ?_); intro K hK) | (refine auC ?_) | (refine wc_cond rfl (fun hc => ?_) (fun hc => ?_)) | ((with_reducible refine wc_drawC (by kernel_rfl) ?_); (try simp only [List.append_eq, List.cons_append, List.nil_append, List.length_cons, List.length_nil, Nat.reduceAdd])) | ((with_reducible refine sel_wh ?_); first | (refine wh_take (lq := []) rfl rfl rfl rfl (by first | exact rvS | exact rvB | exact rvNB | exact rvE) (Or.inl rfl) ?_) | (refine wh_take rfl rfl rfl rfl (by first | exact rvS | exact rvB | exact rvNB | exact rvE) (Or.inr ⟨rfl, by decide +kernel⟩) ?_)) | (refine whS ?_; intro v hv hp) | ((with_reducible refine sel_wh ?_); first | (refine wh_pass rfl rfl rfl rfl ?_) | (refine wh_done rfl ?_) | (refine wh_all rfl ?_)) | ((with_reducible refine sel_rest ?_); first | exact rest_nil rfl | refine rest_cons rfl rfl ?_ ?_) | ((with_reducible refine sel_nx ?_); first | refine next_of ?_ | refine next_late (by decide +kernel) ?_) | (refine auP ?_) | ((refine auR ?_); clear hK K) | (refine auR ?_) | ((with_reducible refine hK _ _ ?_); clear hK K) | fail)
  repeat' (first | (refine wlS ?_) | (refine wlR ?_) | (refine wlB ?_) | (refine wlNB ?_) | ((with_reducible refine sel_call ?_); refine wl_rd rfl rfl (rd_call rfl rfl rfl (fun w hm => by with_reducible first | exact U1 w | exact U2 w | exact OF w | exact LC w | exact CC w | exact CH w (hm.below rfl) (VwB.out w hm) | exact TC w | exact AC w)) ?_) | (refine wlE ?_) | (refine efSvvp ?_; intro v hv hp) | (refine efSvao ?_; intro v oa ho) | (refine efR ?_) | (refine efZCnn ?_; intro n hn) | (refine efBnn ?_; intro n hn) | (refine efB ?_) | (refine efBS ?_) | (refine wl_skip rfl rfl ?_) | (refine wdS ?_) | (refine wd_pure hm0 rfl rfl rfl rfl rvS ?_) | (refine wdR ?_) | (refine wd_pure hm0 rfl rfl rfl rfl rvR ?_) | (refine wdV ?_) | (refine wdB ?_) | (refine wd_pure hm0 rfl rfl rfl rfl rvB ?_) | (refine wdNB ?_) | (refine wd_pure hm0 rfl rfl rfl rfl rvNB ?_) | ((with_reducible refine seld_call ?_); refine wd_rd hm0 rfl rfl rfl rfl (rd_call rfl rfl rfl (fun w hm => by with_reducible first | exact U1 w | exact U2 w | exact OF w | exact LC w | exact CC w | exact CH w (hm.below rfl) (VwB.out w hm) | exact TC w | exact AC w)) ?_) | (refine wdE ?_) | (refine wd_pure hm0 rfl rfl rfl rfl rvE ?_) | ((with_reducible refine seld_load ?_); first | refine wd_ld hm0 rfl rfl rfl rfl rfl rfl (by repeat (first | exact Inn.here | refine Inn.there ?_)) (ld_O (Has.inn Inn.here)) ?_ | refine wd_ld hm0 rfl rfl rfl rfl rfl rfl (by repeat (first | exact Inn.here | refine Inn.there ?_)) (ld_OR (Has.inn Inn.here)) ?_ | refine wd_ld hm0 rfl rfl rfl rfl rfl rfl (by repeat (first | exact Inn.here | refine Inn.there ?_)) (ld_num (Has.inn Inn.here)) ?_ | refine wd_ld hm0 rfl rfl rfl rfl rfl rfl (by repeat (first | exact Inn.here | refine Inn.there ?_)) (ld_whole (Has.inn Inn.here)) ?_ | refine wd_ld hm0 rfl rfl rfl rfl rfl rfl (by repeat (first | exact Inn.here | refine Inn.there ?_)) (ld_cell (Has.inn Inn.here)) ?_ | refine wd_ld hm0 rfl rfl rfl rfl rfl rfl (by repeat (first | exact Inn.here | refine Inn.there ?_)) (ld_row (Has.inn Inn.here)) ?_) | (refine wdT ?_) | (refine wdTO ?_) | (refine wd_skip rfl rfl ?_) | ((with_reducible refine seld_nil ?_); refine wd_nil hm0 ?_; clear hm0 hw0) | ((with_reducible refine wc_seq ?_); intro K hK) | (refine auC ?_) | (refine wc_cond rfl (fun hc => ?_) (fun hc => ?_)) | (refine wc_drawS (id := 13) [6, 7] (by kernel_rfl) (by kernel_rfl) (by decide +kernel) (by decide +kernel) ?_; intro w0 hw0 hm0; (try simp only [List.append_eq, List.cons_append, List.nil_append])) | (refine wc_draw (id := 9) (by kernel_rfl) (by kernel_rfl) (by decide +kernel) ?_; intro w0 hw0 hm0; (try simp only [List.append_eq, List.cons_append, List.nil_append])) | (refine wc_draw (id := 11) (by kernel_rfl) (by kernel_rfl) (by decide +kernel) ?_; intro w0 hw0 hm0; (try simp only [List.append_eq, List.cons_append, List.nil_append])) | ((with_reducible refine wc_drawC (by kernel_rfl) ?_); (try simp only [List.append_eq, List.cons_append, List.nil_append, List.length_cons, List.length_nil, Nat.reduceAdd])) | ((with_reducible refine sel_wh ?_); first | (refine wh_take (lq := []) rfl rfl rfl rfl (by first | exact rvS | exact rvR | exact rvB | exact rvNB | exact rvE) (Or.inl rfl) ?_) | (refine wh_take rfl rfl rfl rfl (by first | exact rvS | exact rvR | exact rvB | exact rvNB | exact rvE) (Or.inr ⟨rfl, by decide +kernel⟩) ?_)) | (refine whS ?_; intro v hv hp) | ((with_reducible refine sel_wh ?_); first | (refine wh_pass rfl rfl rfl rfl ?_) | (refine wh_done rfl ?_) | (refine wh_all rfl ?_)) | ((with_reducible refine sel_rest ?_); first | exact rest_nil rfl | refine rest_cons rfl rfl ?_ ?_) | ((with_reducible refine sel_nx ?_); first | refine next_of ?_ | refine next_late (by decide +kernel) ?_) | (refine auP ?_) | ((refine auR ?_); clear hK K) | (refine auR ?_) | ((with_reducible refine hK _ _ ?_); clear hK K) | fail)
  first | refine end_ret (ResP.cell rfl ld_whole (ResP.cell rfl ld_whole (ResP.tmp rfl ResP.nil))) ?_ | refine end_normal (ResP.cell rfl ld_whole (ResP.cell rfl ld_whole (ResP.tmp rfl ResP.nil))) ?_
  first | rfl | (show _ = _; rfl) | (simp only [tupV, *]; done)
end Go.Proofs.YtkbgkobbadjpnaaDoor
