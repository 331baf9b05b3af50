/- SignOnly: the walk. -/
import Derived.Test.YtkbgkobbadjpnaaDoorSignV
namespace Go.Proofs.YtkbgkobbadjpnaaDoor.SignOnlyWalk
open Go.RowKit
attribute [local irreducible] rwA bys iw
set_option linter.unusedVariables false
set_option linter.unusedSimpArgs false
set_option maxRecDepth 100000
set_option maxHeartbeats 16000000 in
theorem walk0 (w : World) (hT : Tab w) (k : Nat) (hk : k < T256) {v : Value} {n : Nat} {p : List Nat} (hq : Cb w v n p) (hn : n ≤ 1048576) (f : Nat) (hf : f < T256) (a : Nat) (ha : a < T256) (b : Nat) (hb : b < T256) :
    Calls Tryd.prog 3 [.agg (bys (lb k)), v, .agg (bys (lb f)), .agg (bys (lb a)), .agg (bys (lb b))].toArray w (Ret (.bool true) w) := by
  have i1 := hq.old
  have VA : ∀ {u : Value} w'', Below w.heap.size w w'' → Cb w'' v n p → Cb w'' u (0 + 32 + 32) (lb f ++ lb a) → Calls Tryd.prog 13 [.agg (bys (lb k)), v, u].toArray w'' (Ret (.int .i64 (verI k f a p)) w'') := fun w'' h1 h2 h3 => ver_c w hT w'' h1 k f a hk hf ha h2 hn h3
  have VB : ∀ {u : Value} w'', Below w.heap.size w w'' → Cb w'' v n p → Cb w'' u (0 + 32 + 32) (lb f ++ lb b) → Calls Tryd.prog 13 [.agg (bys (lb k)), v, u].toArray w'' (Ret (.int .i64 (verI k f b p)) w'') := fun w'' h1 h2 h3 => ver_c w hT w'' h1 k f b hk hf hb h2 hn h3
  have hso := sign_only (k := k) (f := f) (a := a) (b := b) (p := p)
  clear hT hq
  by_cases h1 : verI k f a p = 0
  · by_cases h2 : verI k f b p = 0
    · obtain rfl := hso h1 h2
      have q1 := eql_bys (lb_len a) (lb_len a) (r := true) (by simp)
      have b1 : (verI k f a p != 0) = false := by rw [h1]; rfl
      clear hso h1 h2 hk hf ha hb
      generalize verI k f a p = E at *
      refine fn_ret (N := _) Tryd.func3 rfl Tryd.ntmps3 Tryd.results3 (by simp) ?_
      simp only [initS, Nat.reduceAdd, Nat.zero_add]
      repeat' (first | (refine wlS ?_) | (refine wlB ?_) | ((with_reducible refine sel_b_eql ?_); refine wv rfl rfl (rd_eqlV rfl rfl rfl (by with_reducible exact q1)) ?_) | ((with_reducible refine sel_b_neq ?_); refine wv rfl rfl (rd_neqV rfl rfl rfl (by with_reducible exact q1)) ?_) | (refine wlNB ?_) | ((with_reducible refine sel_call ?_); refine wl_rd rfl rfl (rd_call rfl rfl rfl (fun w hm => by with_reducible first | exact VA w (hm.below rfl) (VwB.out w hm) (VwB.out w hm) | exact VB w (hm.below rfl) (VwB.out w hm) (VwB.out w hm))) ?_) | (refine wlE ?_) | (refine efSvvp ?_; intro v hv hp) | (refine efSvao ?_; intro v oa ho) | (refine efBnn ?_; intro n hn) | (refine wl_skip rfl rfl ?_) | ((with_reducible refine wc_seq ?_); intro K hK) | (refine auC ?_) | (refine wc_cond rfl (fun hc => ?_) (fun hc => ?_)) | ((with_reducible refine wc_drawT (by kernel_rfl) ?_); (try simp only [List.append_eq, List.cons_append, List.nil_append, List.length_cons, List.length_nil, Nat.reduceAdd])) | ((with_reducible refine sel_wh ?_); first | (refine wh_take (lq := []) rfl rfl rfl rfl (by first | exact rvS | exact rvB | exact rvE) (Or.inl rfl) ?_) | (refine wh_take rfl rfl rfl rfl (by first | exact rvS | exact rvB | exact rvE) (Or.inr ⟨rfl, by decide +kernel⟩) ?_)) | (refine whS ?_; intro v hv hp) | ((with_reducible refine sel_wh ?_); first | (refine wh_pass rfl rfl rfl rfl ?_) | (refine wh_done rfl ?_) | (refine wh_all rfl ?_)) | ((with_reducible refine sel_rest ?_); first | exact rest_nil rfl | refine rest_cons rfl rfl ?_ ?_) | ((with_reducible refine sel_nx ?_); first | refine next_of ?_ | refine next_late (by decide +kernel) ?_) | (refine auP ?_) | ((refine auR ?_); clear hK K) | (refine auR ?_) | ((with_reducible refine hK _ _ ?_); clear hK K) | fail)
      first | refine end_ret (ResP.tmp rfl ResP.nil) ?_ | refine end_normal (ResP.tmp rfl ResP.nil) ?_
      first | rfl | (show _ = _; rfl) | (simp only [tupV, *]; done)
    · have b1 : (verI k f a p != 0) = false := by rw [h1]; rfl
      have b2 : (verI k f b p != 0) = true := by rw [bne_iff_ne]; exact h2
      clear hso h1 h2 hk hf ha hb
      generalize verI k f a p = E at *
      generalize verI k f b p = E2 at *
      refine fn_ret (N := _) Tryd.func3 rfl Tryd.ntmps3 Tryd.results3 (by simp) ?_
      simp only [initS, Nat.reduceAdd, Nat.zero_add]
      repeat' (first | (refine wlS ?_) | (refine wlB ?_) | (refine wlNB ?_) | ((with_reducible refine sel_call ?_); refine wl_rd rfl rfl (rd_call rfl rfl rfl (fun w hm => by with_reducible first | exact VA w (hm.below rfl) (VwB.out w hm) (VwB.out w hm) | exact VB w (hm.below rfl) (VwB.out w hm) (VwB.out w hm))) ?_) | (refine wlE ?_) | (refine efSvvp ?_; intro v hv hp) | (refine efSvao ?_; intro v oa ho) | (refine efBnn ?_; intro n hn) | (refine wl_skip rfl rfl ?_) | ((with_reducible refine wc_seq ?_); intro K hK) | (refine auC ?_) | (refine wc_cond rfl (fun hc => ?_) (fun hc => ?_)) | ((with_reducible refine wc_drawT (by kernel_rfl) ?_); (try simp only [List.append_eq, List.cons_append, List.nil_append, List.length_cons, List.length_nil, Nat.reduceAdd])) | ((with_reducible refine sel_wh ?_); first | (refine wh_take (lq := []) rfl rfl rfl rfl (by first | exact rvS | exact rvB | exact rvE) (Or.inl rfl) ?_) | (refine wh_take rfl rfl rfl rfl (by first | exact rvS | exact rvB | exact rvE) (Or.inr ⟨rfl, by decide +kernel⟩) ?_)) | (refine whS ?_; intro v hv hp) | ((with_reducible refine sel_wh ?_); first | (refine wh_pass rfl rfl rfl rfl ?_) | (refine wh_done rfl ?_) | (refine wh_all rfl ?_)) | ((with_reducible refine sel_rest ?_); first | exact rest_nil rfl | refine rest_cons rfl rfl ?_ ?_) | ((with_reducible refine sel_nx ?_); first | refine next_of ?_ | refine next_late (by decide +kernel) ?_) | (refine auP ?_) | ((refine auR ?_); clear hK K) | (refine auR ?_) | ((with_reducible refine hK _ _ ?_); clear hK K) | fail)
      first | refine end_ret (ResP.tmp rfl ResP.nil) ?_ | refine end_normal (ResP.tmp rfl ResP.nil) ?_
      first | rfl | (show _ = _; rfl) | (simp only [tupV, *]; done)
  · have b1 : (verI k f a p != 0) = true := by rw [bne_iff_ne]; exact h1
    clear hso h1 hk hf ha hb
    generalize verI k f a p = E at *
    refine fn_ret (N := _) Tryd.func3 rfl Tryd.ntmps3 Tryd.results3 (by simp) ?_
    simp only [initS, Nat.reduceAdd, Nat.zero_add]
    repeat' (first | (refine wlS ?_) | (refine wlB ?_) | (refine wlNB ?_) | ((with_reducible refine sel_call ?_); refine wl_rd rfl rfl (rd_call rfl rfl rfl (fun w hm => by with_reducible exact VA w (hm.below rfl) (VwB.out w hm) (VwB.out w hm))) ?_) | (refine wlE ?_) | (refine efSvvp ?_; intro v hv hp) | (refine efSvao ?_; intro v oa ho) | (refine efBnn ?_; intro n hn) | (refine wl_skip rfl rfl ?_) | ((with_reducible refine wc_seq ?_); intro K hK) | (refine auC ?_) | (refine wc_cond rfl (fun hc => ?_) (fun hc => ?_)) | ((with_reducible refine wc_drawT (by kernel_rfl) ?_); (try simp only [List.append_eq, List.cons_append, List.nil_append, List.length_cons, List.length_nil, Nat.reduceAdd])) | ((with_reducible refine sel_wh ?_); first | (refine wh_take (lq := []) rfl rfl rfl rfl (by first | exact rvS | exact rvB | exact rvE) (Or.inl rfl) ?_) | (refine wh_take rfl rfl rfl rfl (by first | exact rvS | exact rvB | exact rvE) (Or.inr ⟨rfl, by decide +kernel⟩) ?_)) | (refine whS ?_; intro v hv hp) | ((with_reducible refine sel_wh ?_); first | (refine wh_pass rfl rfl rfl rfl ?_) | (refine wh_done rfl ?_) | (refine wh_all rfl ?_)) | ((with_reducible refine sel_rest ?_); first | exact rest_nil rfl | refine rest_cons rfl rfl ?_ ?_) | ((with_reducible refine sel_nx ?_); first | refine next_of ?_ | refine next_late (by decide +kernel) ?_) | (refine auP ?_) | ((refine auR ?_); clear hK K) | (refine auR ?_) | ((with_reducible refine hK _ _ ?_); clear hK K) | fail)
    first | refine end_ret (ResP.tmp rfl ResP.nil) ?_ | refine end_normal (ResP.tmp rfl ResP.nil) ?_
    first | rfl | (show _ = _; rfl) | (simp only [tupV, *]; done)
theorem walk (w : World) (hT : Tab w) (k : Nat) (hk : k < T256) {v : Value} {n : Nat} {p : List Nat} (hq : Cb w v n p) (f : Nat) (hf : f < T256) (a : Nat) (ha : a < T256) (b : Nat) (hb : b < T256) (hn : n ≤ 1048576) :
    Calls Tryd.prog 3 #[bv k, v, bv f, bv a, bv b] w (Ret (.bool true) w) := by
  rw [bv_lb, bv_lb, bv_lb, bv_lb]
  exact walk0 w hT k hk hq hn f hf a ha b hb
end Go.Proofs.YtkbgkobbadjpnaaDoor.SignOnlyWalk
