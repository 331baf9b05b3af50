/- ShareSums: the walk. -/
import Derived.Test.YtkbgkobbadjpnaaDoorJnAG
namespace Go.Proofs.YtkbgkobbadjpnaaDoor.ShareSumsWalk
open Go.RowKit
set_option linter.unusedVariables false
set_option linter.unusedSimpArgs false
set_option maxRecDepth 100000
instance cells_sh {z : Int} {y : Nat} : Cells (rwA (sgSh z y)) 5 := ⟨rw_size (g := sgSh z y) inferInstance, rw_one (g := sgSh z y) inferInstance⟩
set_option maxHeartbeats 32000000 in
theorem walk0 (w : World) (hT : Tab w) (a b : Nat) (ha : a < T256) (hb : b < T256) (k jn : Int) {v u : Value} {m m2 : Nat} {p q : List Nat} (h1 : Cb w v m p) (h2 : Cb w u m2 q) :
    Calls Tryd.prog 9 [nu a, nu b, .int .i64 k, .int .i64 jn, v, u].toArray w (Ret (.bool true) w) := by
  have i1 := h1.old
  have i2 := h2.old
  have SA : ∀ w'', Below w.heap.size w w'' → Cb w'' v m p → Calls Tryd.prog 27 [nu a, .int .i64 k, .int .i64 jn, v].toArray w'' (RetO (fun x : Value × Int => .tuple #[x.1, .int .i64 x.2]) (SplA a k jn) w'') := fun w'' h h' => split_any w hT w'' h a ha k jn h'
  have SB : ∀ w'', Below w.heap.size w w'' → Cb w'' u m2 q → Calls Tryd.prog 27 [nu b, .int .i64 k, .int .i64 jn, u].toArray w'' (RetO (fun x : Value × Int => .tuple #[x.1, .int .i64 x.2]) (SplA b k jn) w'') := fun w'' h h' => split_any w hT w'' h b hb k jn h'
  clear hT h1 h2
  refine fn_ret (N := _) Tryd.func9 rfl Tryd.ntmps9 Tryd.results9 (by simp) ?_
  simp only [initS, Nat.reduceAdd, Nat.zero_add]
  repeat' (first | (refine wlS ?_) | (refine wlB ?_) | (refine wlE ?_) | (refine efSvao ?_; intro v oa ho) | (refine efZCnn ?_; intro n hn) | ((with_reducible refine sel_call ?_); first | (refine wl_newO rfl rfl rfl rfl rfl (fun w hm => by with_reducible exact SA w (hm.below rfl) (VwB.out w hm)) ?_; intro x oa hx)) | (refine efBnn ?_; intro n hn) | (refine efB ?_) | (refine efBS ?_) | (refine wl_skip rfl rfl ?_) | (refine wdS ?_) | (refine wdV ?_) | (refine wdB ?_) | (refine wdE ?_) | (refine wd_skip rfl rfl ?_) | ((with_reducible refine seld_nil ?_); refine wd_nil hm0 ?_; clear hm0 hw0) | ((with_reducible refine wc_seq ?_); intro K hK) | (refine auC ?_) | (refine wc_cond rfl (fun hc => ?_) (fun hc => ?_)) | (refine wc_draw (by kernel_rfl) (by kernel_rfl) (by decide +kernel) ?_; intro w0 hw0 hm0; (try simp only [List.append_eq, List.cons_append, List.nil_append])) | (refine auP ?_) | ((refine auR ?_); clear hK K) | (refine auR ?_) | ((with_reducible refine hK _ _ ?_); clear hK K) | fail)
  clear SA
  rename_i nA _
  obtain ⟨nB, rfl⟩ : ∃ nB, nB = n := ⟨n, rfl⟩
  obtain ⟨oa1, rfl⟩ : ∃ oa1, oa1 = oa := ⟨oa, rfl⟩
  obtain ⟨v1, e1⟩ := x
  rcases hx with ⟨hx1, hx2, rfl⟩ | ⟨hx1, aL, kk, nn, rfl, rfl, k1, k2, k3, cs, hc1, hc2, ho1⟩
  · dsimp only at hx1 hx2 ⊢
    subst hx2
    have n1 : (e1 != 0) = true := by simpa using hx1
    clear hx1
    repeat' (first | (refine wlS ?_) | (refine wlB ?_) | (refine wlNB ?_) | (refine wlE ?_) | (refine efSvao ?_; intro v oa ho) | (refine efZCnn ?_; intro n hn) | ((with_reducible refine sel_call ?_); first | (refine wl_newO rfl rfl rfl rfl rfl (fun w hm => by with_reducible exact SB w (hm.below rfl) (VwB.out w hm)) ?_; intro x oa hx)) | (refine efBnn ?_; intro n hn) | (refine efB ?_) | (refine efBS ?_) | (refine wl_skip rfl rfl ?_) | (refine wdS ?_) | (refine wdV ?_) | (refine wdB ?_) | (refine wdE ?_) | (refine wd_skip rfl rfl ?_) | ((with_reducible refine seld_nil ?_); refine wd_nil hm0 ?_; clear hm0 hw0) | ((with_reducible refine wc_seq ?_); intro K hK) | (refine auC ?_) | (refine wc_cond rfl (fun hc => ?_) (fun hc => ?_)) | (refine wc_draw (by kernel_rfl) (by kernel_rfl) (by decide +kernel) ?_; intro w0 hw0 hm0; (try simp only [List.append_eq, List.cons_append, List.nil_append])) | (refine auP ?_) | ((refine auR ?_); clear hK K) | (refine auR ?_) | ((with_reducible refine hK _ _ ?_); clear hK K) | fail)
    first | refine end_ret (ResP.tmp rfl ResP.nil) ?_ | refine end_normal (ResP.tmp rfl ResP.nil) ?_
    first | rfl | (show _ = _; rfl) | (simp only [tupV, *]; done)
  dsimp only at hx1 ho1 ⊢
  subst hx1
  haveI := ho1
  have il1 : Ln v1 nn := ho1.ln
  have n0 : ((0 : Int) != 0) = false := rfl
  repeat' (first | (refine wlS ?_) | (refine wlB ?_) | (refine wlNB ?_) | (refine wlE ?_) | (refine efSvao ?_; intro v oa ho) | (refine efZCnn ?_; intro n hn) | ((with_reducible refine sel_call ?_); first | (refine wl_newO rfl rfl rfl rfl rfl (fun w hm => by with_reducible exact SB w (hm.below rfl) (VwB.out w hm)) ?_; intro x oa hx)) | (refine efBnn ?_; intro n hn) | (refine efB ?_) | (refine efBS ?_) | (refine wl_skip rfl rfl ?_) | (refine wdS ?_) | (refine wdV ?_) | (refine wdB ?_) | (refine wdE ?_) | (refine wd_skip rfl rfl ?_) | ((with_reducible refine seld_nil ?_); refine wd_nil hm0 ?_; clear hm0 hw0) | ((with_reducible refine wc_seq ?_); intro K hK) | (refine auC ?_) | (refine wc_cond rfl (fun hc => ?_) (fun hc => ?_)) | (refine wc_draw (by kernel_rfl) (by kernel_rfl) (by decide +kernel) ?_; intro w0 hw0 hm0; (try simp only [List.append_eq, List.cons_append, List.nil_append])) | (refine auP ?_) | ((refine auR ?_); clear hK K) | (refine auR ?_) | ((with_reducible refine hK _ _ ?_); clear hK K) | fail)
  clear SB
  obtain ⟨v2, e2⟩ := x
  rcases hx with ⟨hx1, hx2, rfl⟩ | ⟨hx1, bL, kk', nn', hkk, hnn, _, _, _, ds, hd1, hd2, ho2⟩
  · dsimp only at hx1 hx2 ⊢
    subst hx2
    have n1 : (e2 != 0) = true := by simpa using hx1
    clear hx1
    rw [n1]
    repeat' (first | (refine wlS ?_) | (refine wlB ?_) | (refine wlNB ?_) | (refine wlE ?_) | (refine efSvao ?_; intro v oa ho) | (refine efZCnn ?_; intro n hn) | (refine efBnn ?_; intro n hn) | (refine efB ?_) | (refine efBS ?_) | (refine wl_skip rfl rfl ?_) | (refine wdS ?_) | (refine wdV ?_) | (refine wdB ?_) | (refine wdE ?_) | (refine wd_skip rfl rfl ?_) | ((with_reducible refine seld_nil ?_); refine wd_nil hm0 ?_; clear hm0 hw0) | ((with_reducible refine wc_seq ?_); intro K hK) | (refine auC ?_) | (refine wc_cond rfl (fun hc => ?_) (fun hc => ?_)) | (refine wc_draw (by kernel_rfl) (by kernel_rfl) (by decide +kernel) ?_; intro w0 hw0 hm0; (try simp only [List.append_eq, List.cons_append, List.nil_append])) | (refine auP ?_) | ((refine auR ?_); clear hK K) | (refine auR ?_) | ((with_reducible refine hK _ _ ?_); clear hK K) | fail)
    first | refine end_ret (ResP.tmp rfl ResP.nil) ?_ | refine end_normal (ResP.tmp rfl ResP.nil) ?_
    first | rfl | (show _ = _; rfl) | (simp only [tupV, *]; done)
  obtain rfl : kk' = kk := by omega
  obtain rfl : nn' = nn := by omega
  dsimp only at hx1 ho2 ⊢
  subst hx1
  haveI := ho2
  have il2 : Ln v2 nn' := ho2.ln
  by_cases h6 : kk' > 6
  · have t6 : decide ((kk' : Int) > 6) = true := decide_eq_true (by omega)
    repeat' (first | (refine wlS ?_) | (refine wlB ?_) | (refine wlNB ?_) | (refine wlE ?_) | (refine efSvao ?_; intro v oa ho) | (refine efZCnn ?_; intro n hn) | (refine efBnn ?_; intro n hn) | (refine efB ?_) | (refine efBS ?_) | (refine wl_skip rfl rfl ?_) | (refine wdS ?_) | (refine wdV ?_) | (refine wdB ?_) | (refine wdE ?_) | (refine wd_skip rfl rfl ?_) | ((with_reducible refine seld_nil ?_); refine wd_nil hm0 ?_; clear hm0 hw0) | ((with_reducible refine wc_seq ?_); intro K hK) | (refine auC ?_) | (refine wc_cond rfl (fun hc => ?_) (fun hc => ?_)) | (refine wc_draw (by kernel_rfl) (by kernel_rfl) (by decide +kernel) ?_; intro w0 hw0 hm0; (try simp only [List.append_eq, List.cons_append, List.nil_append])) | (refine auP ?_) | ((refine auR ?_); clear hK K) | (refine auR ?_) | ((with_reducible refine hK _ _ ?_); clear hK K) | fail)
    first | refine end_ret (ResP.tmp rfl ResP.nil) ?_ | refine end_normal (ResP.tmp rfl ResP.nil) ?_
    first | rfl | (show _ = _; rfl) | (simp only [tupV, *]; done)
  have t6 : decide ((kk' : Int) > 6) = false := decide_eq_false (by omega)
  have q1 : ((nn' : Int) != (nn' : Int)) = false := by simp
  clear i1 i2 hkk hnn
  repeat' (first | (refine wlS ?_) | (refine wlB ?_) | (refine wlNB ?_) | (refine wlE ?_) | (refine efSvao ?_; intro v oa ho) | (refine efZCnn ?_; intro n hn) | (refine efBnn ?_; intro n hn) | (refine efB ?_) | (refine efBS ?_) | (refine wl_skip rfl rfl ?_) | (refine wdS ?_) | (refine wdV ?_) | (refine wdB ?_) | (refine wdE ?_) | (refine wd_skip rfl rfl ?_) | ((with_reducible refine seld_nil ?_); refine wd_nil hm0 ?_; clear hm0 hw0) | ((with_reducible refine wc_seq ?_); intro K hK) | (refine auC ?_) | (refine wc_cond rfl (fun hc => ?_) (fun hc => ?_)) | (refine wc_draw (by kernel_rfl) (by kernel_rfl) (by decide +kernel) ?_; intro w0 hw0 hm0; (try simp only [List.append_eq, List.cons_append, List.nil_append])) | (refine auP ?_) | ((refine auR ?_); clear hK K) | (refine auR ?_) | ((with_reducible refine hK _ _ ?_); clear hK K) | fail)
  obtain ⟨oa2, rfl⟩ : ∃ oa2, oa2 = oa := ⟨oa, rfl⟩
  refine wc_loop (σ := Nat × Value × Blks) (fun x => [(2, .int .i64 (kk' : Int)), (6, ptr nA), (7, ptr nB), (13, v1), (15, v2), (17, x.2.1), (18, .int .i64 (x.1 : Int))])
    (fun x => (nB, (numC b, 29)) :: (nA, (numC a, 29)) :: (oa1 ++ (oa2 ++ x.2.2)))
    (fun x => x.1 ≤ kk' ∧ OwnL 64 5 x.2.1 x.1 (recs shE (liI (bothN cs ds x.1))) x.2.2)
    (fun x => kk' - x.1) (0, .slice none 0 0, []) ⟨Nat.zero_le _, OwnL.nil _ _⟩ (Fits.of ⟨rfl, rfl, rfl, rfl, rfl, rfl, rfl, trivial⟩ (by dsimp only; rw [List.append_nil]; exact SubL.refl _) rfl) ?_
  rintro ⟨i, bv, ob⟩ ⟨hi, hob⟩
  dsimp only at hi hob ⊢
  haveI := hob
  have il3 : Ln bv i := hob.ln
  by_cases hlt : i < kk'
  · have w1 : decide ((i : Int) < (kk' : Int)) = true := decide_eq_true (by omega)
    have w2 : IntKind.i64.wrap ((i : Int) + 1) = ((i + 1 : Nat) : Int) := by rw [wrap_i64 _ (by omega) (by omega)]; omega
    have g1 : (recs shE (polyS cs nn'))[i * 5]? = some (.int .i64 ((i + 1 : Nat) : Int)) := sh_x (polyS_get (by omega))
    have g2 : ((recs shE (polyS cs nn')).drop (i * 5 + 1)).take 4 = (numC (evS cs (i + 1))).toList := sh_num (polyS_get (by omega))
    have g3 : ((recs shE (polyS ds nn')).drop (i * 5 + 1)).take 4 = (numC (evS ds (i + 1))).toList := sh_num (polyS_get (by omega))
    have AC := addS (evS cs (i + 1)) (evS ds (i + 1)) (evS_T _ _) (evS_T _ _)
    have hz : recs shE (liI (bothN cs ds i)) ++ (rwA (sgSh ((i + 1 : Nat) : Int) (sadd (evS cs (i + 1)) (evS ds (i + 1))))).toList = recs shE (liI (bothN cs ds (i + 1))) := by
      have := recs_snoc shE (liI (bothN cs ds i)) (((i + 1 : Nat) : Int), sadd (evS cs (i + 1)) (evS ds (i + 1)))
      have e2 : liI (bothN cs ds (i + 1)) = liI (bothN cs ds i) ++ [(((i + 1 : Nat) : Int), sadd (evS cs (i + 1)) (evS ds (i + 1)))] := by rw [bothN_succ]; simp [liI]
      rw [e2, ← this]; rfl
    have s3 : (rwA (sgSh ((i + 1 : Nat) : Int) (sadd (evS cs (i + 1)) (evS ds (i + 1))))).toList.length = 1 * 5 := sgSh_len _ _
    have s2 : ∀ y ∈ (rwA (sgSh ((i + 1 : Nat) : Int) (sadd (evS cs (i + 1)) (evS ds (i + 1))))).toList, y.oneCell' = true := List.all_eq_true.1 (rwL_one (g := sgSh ((i + 1 : Nat) : Int) (sadd (evS cs (i + 1)) (evS ds (i + 1)))) inferInstance)
    have j1 : (i : Int) < (nn' : Int) := by omega
    clear hc1 hc2 hd1 hd2
    generalize sadd (evS cs (i + 1)) (evS ds (i + 1)) = Y at *
    generalize evS cs (i + 1) = Y1 at *
    generalize evS ds (i + 1) = Y2 at *
    obtain ⟨zs, hzs⟩ : ∃ zs, zs = recs shE (liI (bothN cs ds (i + 1))) := ⟨_, rfl⟩
    rw [← hzs] at hz
    generalize recs shE (liI (bothN cs ds i)) = z0 at *
    generalize recs shE (polyS cs nn') = cx at *
    generalize recs shE (polyS ds nn') = dx at *
    repeat' (first | (refine wlS ?_) | (refine wlG ?_) | (refine wlB ?_) | (refine wlNB ?_) | ((with_reducible refine sel_call ?_); refine wl_rd rfl rfl (rd_call rfl rfl rfl (fun w hm => by with_reducible exact AC w)) ?_) | ((with_reducible refine sel_load ?_); refine wv rfl rfl (rd_load rfl rfl ld_num4) ?_) | (refine wlE ?_) | (refine efSvao ?_; intro v oa ho) | (refine efG ?_) | (refine efGnn ?_; intro n hn) | (refine efZCnn ?_; intro n hn) | ((with_reducible refine sel_bslice ?_); first | (refine wl_bslice1 rfl rfl rfl rfl ?_; intro vv oc ho)) | (refine efBnn ?_; intro n hn) | (refine efB ?_) | (refine efBS ?_) | (refine wl_skip rfl rfl ?_) | ((with_reducible refine wc_seq ?_); intro K hK) | (refine auC ?_) | (refine wc_cond rfl (fun hc => ?_) (fun hc => ?_)) | ((with_reducible refine wc_drawH _ [19] (by kernel_rfl) (SubL.refl _) ?_); (try simp only [List.append_eq, List.cons_append, List.nil_append, List.length_cons, List.length_nil, Nat.reduceAdd])) | ((with_reducible refine sel_wh ?_); first | (refine wh_take (lq := []) rfl rfl rfl rfl (by first | exact rvS | exact rvG | exact rvB | ((with_reducible apply selr_load); exact rd_load rfl rfl ld_num4) | exact rvE) (Or.inl rfl) ?_) | (refine wh_takeL rfl rfl rfl rfl (by first | exact rvS | exact rvG | exact rvB | ((with_reducible apply selr_load); exact rd_load rfl rfl ld_num4) | exact rvE) (by decide +kernel) ?_)) | (refine whS ?_; intro v hv hp) | ((with_reducible refine sel_wh ?_); first | (refine wh_pass rfl rfl rfl rfl ?_) | (refine wh_done rfl ?_) | (refine wh_all rfl ?_)) | ((with_reducible refine sel_rest ?_); first | exact rest_nil rfl | refine rest_cons rfl rfl ?_ ?_) | ((with_reducible refine sel_nx ?_); first | refine next_of ?_ | refine next_late (by decide +kernel) ?_) | (refine auP ?_) | ((refine auR ?_); clear hK K) | (refine auR ?_) | ((with_reducible refine hK _ _ ?_); clear hK K) | fail)
    refine ⟨(i + 1, v, oa), ⟨hlt, by dsimp only; rw [← hzs]; assumption⟩, by show kk' - (i + 1) < kk' - i; omega, Fits.of ⟨rfl, rfl, rfl, rfl, rfl, rfl, rfl, trivial⟩ ?_ rfl⟩
    repeat (first | exact SubL.nil | exact SubL.refl _ | refine SubL.keep ?_ | exact SubL.headA _ _ | refine SubL.keepA ?_ _ | refine SubL.skip ?_ | refine SubL.skipA ?_ _)
  · obtain rfl : i = kk' := by omega
    have w1 : decide ((i : Int) < (i : Int)) = false := decide_eq_false (by omega)
    have b1 : ((0 : Int) == 0) = true := rfl
    have A0 : ∀ {t : Value} w', Cs w' t i (recs shE (liI (bothN cs ds i))) → Calls Tryd.prog 29 [t, .int .i64 0].toArray w' (Ret (.tuple #[nu (sadd a b), .int .i64 0]) w') := fun w' h' => by
      have := at_ok w' (v := _) (l := bothN cs ds i) (by unfold Shs; rw [liI_len, bothN_len]; exact h') (fun q hq => by
        obtain ⟨h2, h3, h4⟩ := bothN_mem hq
        exact ⟨by omega, by rw [h4]; exact Nat.lt_trans (sadd_L _ _) SL_T⟩) (x := 0) (by decide) (both_err cs ds (by omega) (by omega))
      rw [both_at (by omega) hc1 hd1 hc2 hd2] at this
      exact this
    have AC := addS a b ha hb
    clear hc1 hc2 hd1 hd2
    generalize recs shE (liI (bothN cs ds i)) = z0 at *
    generalize recs shE (polyS cs nn') = cx at *
    generalize recs shE (polyS ds nn') = dx at *
    repeat' (first | (refine wlS ?_) | (refine wlB ?_) | (refine wlNB ?_) | (refine wlEQ ?_) | ((with_reducible refine sel_call ?_); refine wl_rd rfl rfl (rd_call rfl rfl rfl (fun w hm => by with_reducible first | exact A0 w (Vw.out w hm) | exact AC w)) ?_) | (refine wlE ?_) | (refine efSvao ?_; intro v oa ho) | (refine efZCnn ?_; intro n hn) | (refine efBnn ?_; intro n hn) | (refine efB ?_) | (refine efBS ?_) | (refine wl_skip rfl rfl ?_) | (refine wdS ?_) | (refine wdV ?_) | (refine wdB ?_) | (refine wdEQ ?_) | ((with_reducible refine seld_call ?_); refine wd_rd hm0 rfl rfl rfl rfl (rd_call rfl rfl rfl (fun w hm => by with_reducible first | exact A0 w (Vw.out w hm) | exact AC w)) ?_) | (refine wdE ?_) | (refine wd_skip rfl rfl ?_) | ((with_reducible refine seld_nil ?_); refine wd_nil hm0 ?_; clear hm0 hw0) | ((with_reducible refine wc_seq ?_); intro K hK) | (refine auC ?_) | (refine wc_cond rfl (fun hc => ?_) (fun hc => ?_)) | (refine wc_draw (by kernel_rfl) (by kernel_rfl) (by decide +kernel) ?_; intro w0 hw0 hm0; (try simp only [List.append_eq, List.cons_append, List.nil_append])) | (refine auP ?_) | ((refine auR ?_); clear hK K) | (refine auR ?_) | ((with_reducible refine hK _ _ ?_); clear hK K) | fail)
    first | refine end_ret (ResP.tmp rfl ResP.nil) ?_ | refine end_normal (ResP.tmp rfl ResP.nil) ?_
    first | rfl | (show _ = _; rfl) | (simp only [tupV, *]; done)
theorem walk (w : World) (hT : Tab w) (a : Nat) (ha : a < T256) (b : Nat) (hb : b < T256) (k : Int) (hk : (Lit.int .i64 k).wf = true) (jn : Int) (hj : (Lit.int .i64 jn).wf = true) {v : Value} {m : Nat} {p : List Nat} (h1 : Cb w v m p) {u : Value} {m2 : Nat} {q : List Nat} (h2 : Cb w u m2 q) :
    Calls Tryd.prog 9 #[num a, num b, .int .i64 k, .int .i64 jn, v, u] w (Ret (.bool true) w) := by
  rw [nu_num, nu_num]
  exact walk0 w hT a b ha hb k jn h1 h2
end Go.Proofs.YtkbgkobbadjpnaaDoor.ShareSumsWalk
