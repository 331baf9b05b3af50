/- The package sign, walked: Verify. -/
import Derived.Test.YtkbgkobbadjpnaaDoorSignLaw
namespace Go.Proofs.YtkbgkobbadjpnaaDoor
open Go.RowKit
attribute [local irreducible] rwA bys iw
set_option linter.unusedVariables false
set_option linter.unusedSimpArgs false
set_option maxRecDepth 100000
/-- A pair's cells are 68. -/
instance cells_sgP {a : Nat} {m k : List Nat} [h1 : NBy m 32] [h2 : NBy k 32] : Cells (rwA (sgP a m k)) 68 := ⟨rw_size (g := sgP a m k) inferInstance, rw_one (g := sgP a m k) inferInstance⟩
set_option maxHeartbeats 4000000 in
theorem ver_len (w : World) (k : Nat) {v u : Value} {m : Nat} {sig : List Nat} (hsig : Cb w u m sig) (hm : m ≠ 64) :
    Calls Tryd.prog 13 [.agg (bys (lb k)), v, u].toArray w (Ret (.int .i64 1) w) := by
  have i1 := hsig.old
  have CL : ∀ w'', Cb w'' u m sig → Calls Tryd.prog 37 [.agg (bys (lb k)), v, u].toArray w'' (Ret (.tuple #[nu 0, pv ⟨0, 0⟩, .int .i64 1]) w'') := fun w'' h => claim_len w'' k h hm
  have z1 : ((1 : Int) != 0) = true := rfl
  clear hsig
  refine fn_ret (N := _) Tryd.func13 rfl Tryd.ntmps13 Tryd.results13 (by simp) ?_
  simp only [initS, Nat.reduceAdd, Nat.zero_add]
  repeat' (first | (refine wlS ?_) | (refine wlR ?_) | (refine wlB ?_) | (refine wlNB ?_) | ((with_reducible refine sel_call ?_); refine wl_rd rfl rfl (rd_call rfl rfl rfl (fun w hm => by with_reducible exact CL w (VwB.out w hm))) ?_) | (refine wlE ?_) | (refine efSvao ?_; intro v oa ho) | (refine efR ?_) | (refine efZCnn ?_; intro n hn) | (refine efBnn ?_; intro n hn) | (refine efB ?_) | (refine efBS ?_) | (refine wl_skip rfl rfl ?_) | (refine wdS ?_) | (refine wdR ?_) | (refine wdV ?_) | (refine wdB ?_) | ((with_reducible refine seld_call ?_); refine wd_rd hm0 rfl rfl rfl rfl (rd_call rfl rfl rfl (fun w hm => by with_reducible exact CL w (VwB.out w hm))) ?_) | (refine wdE ?_) | (refine wd_allocC hm0 rfl rfl rfl ?_; intro n hn hn0) | (refine wd_alloc hm0 rfl rfl rfl ?_; intro n hn hn0) | (refine wdT ?_) | (refine wdTO ?_) | (refine wd_skip rfl rfl ?_) | ((with_reducible refine seld_nil ?_); refine wd_nil hm0 ?_; clear hm0 hw0) | ((with_reducible refine wc_seq ?_); intro K hK) | (refine auC ?_) | (refine wc_cond rfl (fun hc => ?_) (fun hc => ?_)) | (refine wc_draw (by kernel_rfl) (by kernel_rfl) (by decide +kernel) ?_; intro w0 hw0 hm0; (try simp only [List.append_eq, List.cons_append, List.nil_append])) | (refine auP ?_) | ((refine auR ?_); clear hK K) | (refine auR ?_) | ((with_reducible refine hK _ _ ?_); clear hK K) | fail)
  first | refine end_ret (ResP.tmp rfl ResP.nil) ?_ | refine end_normal (ResP.tmp rfl ResP.nil) ?_
  first | rfl | (show _ = _; rfl) | (simp only [tupV, *]; done)
set_option maxHeartbeats 8000000 in
theorem ver_c (w : World) (hT : Tab w) (w' : World) (hb : Below w.heap.size w w') (k f s : Nat) (hk : k < T256) (hf : f < T256) (hs : s < T256) {v : Value} {n : Nat} {p : List Nat} (hq : Cb w' v n p) (hn : n ≤ 1048576) {u : Value} (hsig : Cb w' u 64 (lb f ++ lb s)) :
    Calls Tryd.prog 13 [.agg (bys (lb k)), v, u].toArray w' (Ret (.int .i64 (verI k f s p)) w') := by
  have i1 := hsig.old
  have i2 := hq.old
  have hT' := hT.below hb
  have z0 : ((0 : Int) != 0) = false := rfl
  have z4 : ((4 : Int) != 0) = true := rfl
  by_cases hok : clOk k f s
  · have CL : ∀ w'', Below w'.heap.size w' w'' → Cb w'' v n p → Cb w'' u 64 (lb f ++ lb s) → Calls Tryd.prog 37 [.agg (bys (lb k)), v, u].toArray w'' (Ret (.tuple #[nu s, pv (tP k f p), .int .i64 0]) w'') := fun w'' h1 h2 h3 => claim_ok w' hT' w'' h1 k f s hk hf hs hok h2 hn h3
    have BC := base_c
    have TC := times_yes s hs base_red.lt base_on
    have on1 := times_on base_on s
    have on2 := tP_on (s := s) hk hf hok p
    by_cases he : Pt.base.times s = tP k f p
    · have hv : verI k f s p = 0 := verI_zero.2 ⟨hok, he⟩
      rw [hv]
      rw [he] at TC
      have q1 := eq_pt_yes on2.red.lt (rfl : tP k f p = tP k f p)
      clear hsig hq hT hb hT' hv he hok on1 on2 hk hf hs
      generalize tP k f p = P1 at *
      generalize Pt.base = B at *
      refine fn_ret (N := _) Tryd.func13 rfl Tryd.ntmps13 Tryd.results13 (by simp) ?_
      simp only [initS, Nat.reduceAdd, Nat.zero_add]
      repeat' (first | (refine wlS ?_) | (refine wlR ?_) | (refine wlB ?_) | ((with_reducible refine sel_b_neq ?_); refine wv rfl rfl (rd_neqV rfl rfl rfl (by with_reducible exact q1)) ?_) | (refine wlNB ?_) | ((with_reducible refine sel_call ?_); refine wl_rd rfl rfl (rd_call rfl rfl rfl (fun w hm => by with_reducible first | exact CL w (hm.below rfl) (VwB.out w hm) (VwB.out w hm) | exact BC w | exact TC w)) ?_) | (refine wlE ?_) | (refine efSvao ?_; intro v oa ho) | (refine efR ?_) | (refine efZCnn ?_; intro n hn) | (refine efBnn ?_; intro n hn) | (refine efB ?_) | (refine efBS ?_) | (refine wl_skip rfl rfl ?_) | (refine wdS ?_) | (refine wdR ?_) | (refine wdV ?_) | (refine wdB ?_) | ((with_reducible refine seld_call ?_); refine wd_rd hm0 rfl rfl rfl rfl (rd_call rfl rfl rfl (fun w hm => by with_reducible first | exact CL w (hm.below rfl) (VwB.out w hm) (VwB.out w hm) | exact BC w | exact TC w)) ?_) | (refine wdE ?_) | (refine wd_allocC hm0 rfl rfl rfl ?_; intro n hn hn0) | (refine wd_alloc hm0 rfl rfl rfl ?_; intro n hn hn0) | (refine wdT ?_) | (refine wdTO ?_) | (refine wd_skip rfl rfl ?_) | ((with_reducible refine seld_nil ?_); refine wd_nil hm0 ?_; clear hm0 hw0) | ((with_reducible refine wc_seq ?_); intro K hK) | (refine auC ?_) | (refine wc_cond rfl (fun hc => ?_) (fun hc => ?_)) | (refine wc_draw (by kernel_rfl) (by kernel_rfl) (by decide +kernel) ?_; intro w0 hw0 hm0; (try simp only [List.append_eq, List.cons_append, List.nil_append])) | (refine auP ?_) | ((refine auR ?_); clear hK K) | (refine auR ?_) | ((with_reducible refine hK _ _ ?_); clear hK K) | fail)
      first | refine end_ret (ResP.tmp rfl ResP.nil) ?_ | refine end_normal (ResP.tmp rfl ResP.nil) ?_
      first | rfl | (show _ = _; rfl) | (simp only [tupV, *]; done)
    · have hv : verI k f s p = 5 := verI_five hok he
      rw [hv]
      have q1 := eq_pt_no on1.red.lt on2.red.lt he
      clear hsig hq hT hb hT' hv he hok on1 on2 hk hf hs
      generalize Pt.base.times s = P2 at *
      generalize tP k f p = P1 at *
      generalize Pt.base = B at *
      refine fn_ret (N := _) Tryd.func13 rfl Tryd.ntmps13 Tryd.results13 (by simp) ?_
      simp only [initS, Nat.reduceAdd, Nat.zero_add]
      repeat' (first | (refine wlS ?_) | (refine wlR ?_) | (refine wlB ?_) | ((with_reducible refine sel_b_neq ?_); refine wv rfl rfl (rd_neqV rfl rfl rfl (by with_reducible exact q1)) ?_) | (refine wlNB ?_) | ((with_reducible refine sel_call ?_); refine wl_rd rfl rfl (rd_call rfl rfl rfl (fun w hm => by with_reducible first | exact CL w (hm.below rfl) (VwB.out w hm) (VwB.out w hm) | exact BC w | exact TC w)) ?_) | (refine wlE ?_) | (refine efSvao ?_; intro v oa ho) | (refine efR ?_) | (refine efZCnn ?_; intro n hn) | (refine efBnn ?_; intro n hn) | (refine efB ?_) | (refine efBS ?_) | (refine wl_skip rfl rfl ?_) | (refine wdS ?_) | (refine wdR ?_) | (refine wdV ?_) | (refine wdB ?_) | ((with_reducible refine seld_call ?_); refine wd_rd hm0 rfl rfl rfl rfl (rd_call rfl rfl rfl (fun w hm => by with_reducible first | exact CL w (hm.below rfl) (VwB.out w hm) (VwB.out w hm) | exact BC w | exact TC w)) ?_) | (refine wdE ?_) | (refine wd_allocC hm0 rfl rfl rfl ?_; intro n hn hn0) | (refine wd_alloc hm0 rfl rfl rfl ?_; intro n hn hn0) | (refine wdT ?_) | (refine wdTO ?_) | (refine wd_skip rfl rfl ?_) | ((with_reducible refine seld_nil ?_); refine wd_nil hm0 ?_; clear hm0 hw0) | ((with_reducible refine wc_seq ?_); intro K hK) | (refine auC ?_) | (refine wc_cond rfl (fun hc => ?_) (fun hc => ?_)) | (refine wc_draw (by kernel_rfl) (by kernel_rfl) (by decide +kernel) ?_; intro w0 hw0 hm0; (try simp only [List.append_eq, List.cons_append, List.nil_append])) | (refine auP ?_) | ((refine auR ?_); clear hK K) | (refine auR ?_) | ((with_reducible refine hK _ _ ?_); clear hK K) | fail)
      first | refine end_ret (ResP.tmp rfl ResP.nil) ?_ | refine end_normal (ResP.tmp rfl ResP.nil) ?_
      first | rfl | (show _ = _; rfl) | (simp only [tupV, *]; done)
  · have hv := verI_four (p := p) hok
    rw [hv]
    have CL : ∀ w'', Cb w'' u 64 (lb f ++ lb s) → Calls Tryd.prog 37 [.agg (bys (lb k)), v, u].toArray w'' (Ret (.tuple #[nu 0, pv ⟨0, 0⟩, .int .i64 4]) w'') := fun w'' h3 => claim_bad w'' k f s hk hf hs hok h3
    clear hsig hq hT hb hT' hv hok hk hf hs
    refine fn_ret (N := _) Tryd.func13 rfl Tryd.ntmps13 Tryd.results13 (by simp) ?_
    simp only [initS, Nat.reduceAdd, Nat.zero_add]
    repeat' (first | (refine wlS ?_) | (refine wlR ?_) | (refine wlB ?_) | (refine wlNB ?_) | ((with_reducible refine sel_call ?_); refine wl_rd rfl rfl (rd_call rfl rfl rfl (fun w hm => by with_reducible exact CL w (VwB.out w hm))) ?_) | (refine wlE ?_) | (refine efSvao ?_; intro v oa ho) | (refine efR ?_) | (refine efZCnn ?_; intro n hn) | (refine efBnn ?_; intro n hn) | (refine efB ?_) | (refine efBS ?_) | (refine wl_skip rfl rfl ?_) | (refine wdS ?_) | (refine wdR ?_) | (refine wdV ?_) | (refine wdB ?_) | ((with_reducible refine seld_call ?_); refine wd_rd hm0 rfl rfl rfl rfl (rd_call rfl rfl rfl (fun w hm => by with_reducible exact CL w (VwB.out w hm))) ?_) | (refine wdE ?_) | (refine wd_allocC hm0 rfl rfl rfl ?_; intro n hn hn0) | (refine wd_alloc hm0 rfl rfl rfl ?_; intro n hn hn0) | (refine wdT ?_) | (refine wdTO ?_) | (refine wd_skip rfl rfl ?_) | ((with_reducible refine seld_nil ?_); refine wd_nil hm0 ?_; clear hm0 hw0) | ((with_reducible refine wc_seq ?_); intro K hK) | (refine auC ?_) | (refine wc_cond rfl (fun hc => ?_) (fun hc => ?_)) | (refine wc_draw (by kernel_rfl) (by kernel_rfl) (by decide +kernel) ?_; intro w0 hw0 hm0; (try simp only [List.append_eq, List.cons_append, List.nil_append])) | (refine auP ?_) | ((refine auR ?_); clear hK K) | (refine auR ?_) | ((with_reducible refine hK _ _ ?_); clear hK K) | fail)
    first | refine end_ret (ResP.tmp rfl ResP.nil) ?_ | refine end_normal (ResP.tmp rfl ResP.nil) ?_
    first | rfl | (show _ = _; rfl) | (simp only [tupV, *]; done)
end Go.Proofs.YtkbgkobbadjpnaaDoor
