/- StoreOwner: the walk. -/
import Derived.Test.YtjianfhodjapgaaJnAC
namespace Go.Proofs.Ytjianfhodjapgaa.StoreOwnerWalk
open Go.RowKit
set_option linter.unusedVariables false
set_option linter.unusedSimpArgs false
set_option maxRecDepth 100000 in
set_option maxHeartbeats 8000000 in
theorem walk (w : World) (next : Int) (hnw : (Lit.int .i64 next).wf = true) {v : Value} {l : List He} (hl : Hes w v l) {k : Nat} (hsz : SmH k l) (ow : Int) (how : (Lit.int .i64 ow).wf = true) (hk : k ≤ 1048576) : Calls Try.prog 3 [.int .i64 next, v, .int .i64 ow].toArray w (Ret (.bool true) w) := by
  haveI i0 := hl.cs.old
  have hsm : ∀ x ∈ l, Small x.2.2.2 := fun x hx => (hsz.each x hx).small hk
  have hlen : l.length ≤ 1048576 := Nat.le_trans hsz.len hk
  by_cases hbad : resBad 16 next
  · have RB := fun w' => restore_bad w' (v := v) hbad
    have t1 : ((1 : Int) != 0) = true := rfl
    clear hl hsz hsm hbad
    refine fn_ret (N := _) Try.func3 rfl Try.ntmps3 Try.results3 (by simp) ?_
    simp only [initS, Nat.reduceAdd, Nat.zero_add]
    repeat' (first | (refine wlS ?_) | (refine wlB ?_) | ((with_reducible refine sel_call ?_); refine wl_rd rfl rfl (rd_call rfl rfl rfl (fun w hm => by with_reducible exact RB w)) ?_) | (refine wlE ?_) | (refine efSvao ?_; intro v oa ho) | (refine efBnn ?_; intro n hn) | (refine efB ?_) | (refine efBS ?_) | (refine wl_skip rfl rfl ?_) | (refine wdS ?_) | (refine wdV ?_) | (refine wdB ?_) | ((with_reducible refine seld_call ?_); refine wd_rd hm0 rfl rfl rfl rfl (rd_call rfl rfl rfl (fun w hm => by with_reducible exact RB w)) ?_) | (refine wdE ?_) | (refine wd_skip rfl rfl ?_) | ((with_reducible refine seld_nil ?_); refine wd_nil hm0 ?_; clear hm0 hw0) | ((with_reducible refine wc_seq ?_); intro K hK) | (refine auC ?_) | (refine wc_cond rfl (fun hc => ?_) (fun hc => ?_)) | (refine wc_draw (by kernel_rfl) (by kernel_rfl) (by decide +kernel) ?_; intro w0 hw0 hm0; (try simp only [List.append_eq, List.cons_append, List.nil_append])) | (refine auP ?_) | ((refine auR ?_); clear hK K) | (refine auR ?_) | ((with_reducible refine hK _ _ ?_); clear hK K) | fail)
    first | refine end_ret (ResP.tmp rfl ResP.nil) ?_ | refine end_normal (ResP.tmp rfl ResP.nil) ?_
    first | rfl | (show _ = _; rfl) | (simp only [tupV, *]; done)
  by_cases hno : ¬ (RiseH l next ∧ (l.length : Int) ≤ 16)
  · obtain ⟨e, he, RN⟩ := restore_no w hbad hl hsm hlen hno
    have RN2 := fun w' (h : Below w.heap.size w w') => RN w' ⟨hl.cs.below h, fun x hx => (hl.body x hx).below h⟩
    have t1 : (e != 0) = true := by rcases he with rfl | rfl <;> rfl
    clear hl hsz hsm hbad hno RN
    refine fn_ret (N := _) Try.func3 rfl Try.ntmps3 Try.results3 (by simp) ?_
    simp only [initS, Nat.reduceAdd, Nat.zero_add]
    repeat' (first | (refine wlS ?_) | (refine wlB ?_) | (refine wlE ?_) | (refine efSvao ?_; intro v oa ho) | ((with_reducible refine sel_call ?_); first | (refine wl_newO rfl rfl rfl rfl rfl (fun w hm => by with_reducible exact RN2 w (hm.below rfl)) ?_; intro x oa hx)) | (refine efBnn ?_; intro n hn) | (refine efB ?_) | (refine efBS ?_) | (refine wl_skip rfl rfl ?_) | (refine wdS ?_) | (refine wdV ?_) | (refine wdB ?_) | (refine wdE ?_) | (refine wd_skip rfl rfl ?_) | ((with_reducible refine seld_nil ?_); refine wd_nil hm0 ?_; clear hm0 hw0) | ((with_reducible refine wc_seq ?_); intro K hK) | (refine auC ?_) | (refine wc_cond rfl (fun hc => ?_) (fun hc => ?_)) | (refine wc_draw (by kernel_rfl) (by kernel_rfl) (by decide +kernel) ?_; intro w0 hw0 hm0; (try simp only [List.append_eq, List.cons_append, List.nil_append])) | (refine auP ?_) | ((refine auR ?_); clear hK K) | (refine auR ?_) | ((with_reducible refine hK _ _ ?_); clear hK K) | fail)
    subst hx
    repeat' (first | (refine wlS ?_) | (refine wlB ?_) | (refine wlE ?_) | (refine efSvao ?_; intro v oa ho) | (refine efBnn ?_; intro n hn) | (refine efB ?_) | (refine efBS ?_) | (refine wl_skip rfl rfl ?_) | (refine wdS ?_) | (refine wdV ?_) | (refine wdB ?_) | (refine wdE ?_) | (refine wd_skip rfl rfl ?_) | ((with_reducible refine seld_nil ?_); refine wd_nil hm0 ?_; clear hm0 hw0) | ((with_reducible refine wc_seq ?_); intro K hK) | (refine auC ?_) | (refine wc_cond rfl (fun hc => ?_) (fun hc => ?_)) | (refine wc_draw (by kernel_rfl) (by kernel_rfl) (by decide +kernel) ?_; intro w0 hw0 hm0; (try simp only [List.append_eq, List.cons_append, List.nil_append])) | (refine auP ?_) | ((refine auR ?_); clear hK K) | (refine auR ?_) | ((with_reducible refine hK _ _ ?_); clear hK K) | fail)
    first | refine end_ret (ResP.tmp rfl ResP.nil) ?_ | refine end_normal (ResP.tmp rfl ResP.nil) ?_
    first | rfl | (show _ = _; rfl) | (simp only [tupV, *]; done)
  obtain ⟨hr, hf⟩ := Classical.not_not.1 hno
  have RO := fun w' (h : Below w.heap.size w w') => restore_ok w' hbad ⟨hl.cs.below h, fun x hx => (hl.body x hx).below h⟩ hsm hlen hr hf
  have t0 : ((0 : Int) != 0) = false := rfl
  have hbody := hl.body
  clear hl hsz hsm hbad hno
  refine fn_ret (N := _) Try.func3 rfl Try.ntmps3 Try.results3 (by simp) ?_
  simp only [initS, Nat.reduceAdd, Nat.zero_add]
  repeat' (first | (refine wlS ?_) | (refine wlB ?_) | (refine wlPN ?_) | (refine wlE ?_) | (refine efSvao ?_; intro v oa ho) | ((with_reducible refine sel_call ?_); first | (refine wl_newO rfl rfl rfl rfl rfl (fun w hm => by with_reducible exact RO w (hm.below rfl)) ?_; intro x oa hx)) | (refine efBnn ?_; intro n hn) | (refine efB ?_) | (refine efBS ?_) | (refine wl_skip rfl rfl ?_) | (refine wdS ?_) | (refine wdV ?_) | (refine wdB ?_) | (refine wdPN ?_) | (refine wdE ?_) | (refine wd_skip rfl rfl ?_) | ((with_reducible refine seld_nil ?_); refine wd_nil hm0 ?_; clear hm0 hw0) | ((with_reducible refine wc_seq ?_); intro K hK) | (refine auC ?_) | (refine wc_cond rfl (fun hc => ?_) (fun hc => ?_)) | (refine wc_draw (by kernel_rfl) (by kernel_rfl) (by decide +kernel) ?_; intro w0 hw0 hm0; (try simp only [List.append_eq, List.cons_append, List.nil_append])) | (refine auP ?_) | ((refine auR ?_); clear hK K) | (refine auR ?_) | ((with_reducible refine hK _ _ ?_); clear hK K) | fail)
  obtain ⟨g, S, ob, hbg, rfl, hS, hSm, hSn, hKp, hab⟩ := hx
  obtain ⟨b, rfl⟩ : ∃ b, b = x := ⟨x, rfl⟩
  clear RO
  have DO := fun w' (h1 : (keys (stoB b g S ++ ob)).Nodup) (h2 : Hd (stoB b g S ++ ob) w') => dropOf_s w' h1 h2 hS hKp ow
  obtain ⟨S', hS'⟩ : ∃ S', dropS S ow = S' := ⟨_, rfl⟩
  have hSo := hS.dropS ow
  have hKo : KpF ob (dropS S ow).m := hKp.sub fun x hx => (List.mem_filter.1 hx).1
  have hn0 := dropN_none S ow
  have hnn := dropN_all S.m ow
  have hSn2 : (dropS S ow).next = next := hSn
  have hml : S.m.length = l.length := by have := congrArg List.length hab; rwa [List.length_map, List.length_map] at this
  have habo : (dropS S ow).m.map absK = (flt l ow).map absH := by
    show (S.m.filter fun x => x.2.1 != ow).map absK = _
    rw [absK_flt, hab, absH_flt]
  have hfl : (S.m.filter fun x => x.2.1 != ow).length = (flt l ow).length := by have := congrArg List.length habo; rwa [List.length_map, List.length_map] at this
  rw [hfl, hml] at hnn
  rw [hS'] at DO hSo hKo hn0 hSn2 habo
  have LS := fun w' (h1 : Hd (stoB b g S') w') (h2 : Hd ob w') => list_s w' h1 h2 hSo hKo
  have NS := fun w' (h1 : Hd (stoB b g S') w') => next_s w' h1
  have DO2 := fun w' (h1 : (keys (stoB b g S' ++ ob)).Nodup) (h2 : Hd (stoB b g S' ++ ob) w') => dropOf_s w' h1 h2 hSo hKo ow
  rw [hn0] at DO2
  rw [hSn2] at NS
  rw [hml] at DO
  clear hS hKp hSm hSn hn0 hSn2 hab hS' hfl hml
  repeat' (first | (refine wlS ?_) | (refine wlB ?_) | (refine wlE ?_) | (refine efSvao ?_; intro v oa ho) | ((with_reducible refine sel_call ?_); first | (refine wl_updO rfl rfl rfl rfl rfl (fun w hm hw => by with_reducible exact DO w (Mem.ndS hm) hw) ?_; intro x oa hx)) | (refine efBnn ?_; intro n hn) | (refine efB ?_) | (refine efBS ?_) | (refine wl_skip rfl rfl ?_) | (refine wdS ?_) | (refine wdV ?_) | (refine wdB ?_) | (refine wdE ?_) | (refine wd_skip rfl rfl ?_) | ((with_reducible refine seld_nil ?_); refine wd_nil hm0 ?_; clear hm0 hw0) | ((with_reducible refine wc_seq ?_); intro K hK) | (refine auC ?_) | (refine wc_cond rfl (fun hc => ?_) (fun hc => ?_)) | (refine wc_draw (by kernel_rfl) (by kernel_rfl) (by decide +kernel) ?_; intro w0 hw0 hm0; (try simp only [List.append_eq, List.cons_append, List.nil_append])) | (refine auP ?_) | ((refine auR ?_); clear hK K) | (refine auR ?_) | ((with_reducible refine hK _ _ ?_); clear hK K) | fail)
  obtain ⟨rfl, rfl⟩ := hx
  repeat' (first | (refine wlS ?_) | (refine wlB ?_) | (refine wlE ?_) | (refine efSvao ?_; intro v oa ho) | ((with_reducible refine sel_call ?_); first | (refine wl_newO rfl rfl rfl rfl rfl (fun w hm => by with_reducible exact LS w (Mem.hd hm) (Mem.hd hm)) ?_; intro x oa hx)) | (refine efBnn ?_; intro n hn) | (refine efB ?_) | (refine efBS ?_) | (refine wl_skip rfl rfl ?_) | (refine wdS ?_) | (refine wdV ?_) | (refine wdB ?_) | (refine wdE ?_) | (refine wd_skip rfl rfl ?_) | ((with_reducible refine seld_nil ?_); refine wd_nil hm0 ?_; clear hm0 hw0) | ((with_reducible refine wc_seq ?_); intro K hK) | (refine auC ?_) | (refine wc_cond rfl (fun hc => ?_) (fun hc => ?_)) | (refine wc_draw (by kernel_rfl) (by kernel_rfl) (by decide +kernel) ?_; intro w0 hw0 hm0; (try simp only [List.append_eq, List.cons_append, List.nil_append])) | (refine auP ?_) | ((refine auR ?_); clear hK K) | (refine auR ?_) | ((with_reducible refine hK _ _ ?_); clear hK K) | fail)
  obtain ⟨hs, hOH, hab⟩ := hx
  rw [habo] at hab
  have hhl : hs.length = (flt l ow).length := by have := congrArg List.length hab; rwa [List.length_map, List.length_map] at this
  have hfle : (flt l ow).length ≤ l.length := List.length_filter_le _ _
  obtain ⟨u0, rfl⟩ : ∃ u, u = x := ⟨x, rfl⟩
  obtain ⟨oL, rfl⟩ : ∃ o, o = oa := ⟨oa, rfl⟩
  haveI hcs := hOH.cs
  rw [hhl] at hcs
  have hbod := hOH.bod
  clear DO LS
  repeat' (first | (refine wlS ?_) | (refine wlB ?_) | (refine wlE ?_) | (refine efSvao ?_; intro v oa ho) | (refine efBnn ?_; intro n hn) | (refine efB ?_) | (refine efBS ?_) | (refine wl_skip rfl rfl ?_) | (refine wdS ?_) | (refine wdV ?_) | (refine wdB ?_) | (refine wdE ?_) | (refine wd_skip rfl rfl ?_) | ((with_reducible refine seld_nil ?_); refine wd_nil hm0 ?_; clear hm0 hw0) | ((with_reducible refine wc_seq ?_); intro K hK) | (refine auC ?_) | (refine wc_cond rfl (fun hc => ?_) (fun hc => ?_)) | (refine wc_draw (by kernel_rfl) (by kernel_rfl) (by decide +kernel) ?_; intro w0 hw0 hm0; (try simp only [List.append_eq, List.cons_append, List.nil_append])) | (refine auP ?_) | ((refine auR ?_); clear hK K) | (refine auR ?_) | ((with_reducible refine hK _ _ ?_); clear hK K) | fail)
  refine wc_loop (σ := Nat) (fun i => [(0, .int .i64 next), (1, v), (2, .int .i64 ow), (7, ptr b), (9, .int .i64 (dropN S.m ow l.length : Int)), (10, u0), (35, u0), (36, .int .i64 ((flt l ow).length : Int)), (37, .int .i64 (i : Int))]) (fun i => stoB b g S' ++ (ob ++ oL)) (fun i => i ≤ (flt l ow).length) (fun i => (flt l ow).length - i) 0 (Nat.zero_le _)
    (Fits.of ⟨rfl, rfl, rfl, rfl, rfl, rfl, rfl, rfl, rfl, trivial⟩ (SubL.refl _) rfl) ?_
  rintro i hi
  by_cases hlt : i < (flt l ow).length
  · obtain ⟨y, hy⟩ : ∃ y, hs[i]? = some y := ⟨hs[i]'(by omega), List.getElem?_eq_getElem (by omega)⟩
    have hyo : y.2.1 ≠ ow := by
      have h1 : absH y ∈ (flt l ow).map absH := by rw [← hab]; exact List.mem_map_of_mem (List.mem_of_getElem? hy)
      obtain ⟨z, hz, he⟩ := List.mem_map.1 h1
      have h2 := (List.mem_filter.1 hz).2
      have h3 : z.2.1 = y.2.1 := congrArg (·.2.1) he
      rw [h3] at h2
      simpa using h2
    have hget := hesC_get hy
    obtain ⟨p, c, hv, _⟩ := (hbod y (List.mem_of_getElem? hy)).cs.ln.out
    have hget2 : ((hesC hs).drop (i * 3)).take 3 = [.int .i64 y.1, .int .i64 y.2.1, .slice p y.2.2.2.length c] := by rw [hget, heC, hv]
    have u1 : decide ((i : Int) < ((flt l ow).length : Int)) = true := decide_eq_true (by omega)
    have u2 : IntKind.i64.wrap ((i : Int) + 1) = ((i + 1 : Nat) : Int) := by rw [wrap_i64 _ (by omega) (by omega)]; omega
    have j1 : (i : Int) < ((flt l ow).length : Int) := by omega
    have t5 : (y.2.1 == ow) = false := by simpa using hyo
    clear hget hab habo hbod hbody DO2 NS
    repeat' (first | (refine wlS ?_) | (refine wlB ?_) | (refine wlE ?_) | (refine efSvao ?_; intro v oa ho) | (refine efZCnn ?_; intro n hn) | (refine efBnn ?_; intro n hn) | (refine efB ?_) | (refine efBS ?_) | (refine wl_skip rfl rfl ?_) | (refine wdS ?_) | (refine wdV ?_) | (refine wdB ?_) | (refine wdE ?_) | (refine wd_skip rfl rfl ?_) | ((with_reducible refine seld_nil ?_); refine wd_nil hm0 ?_; clear hm0 hw0) | ((with_reducible refine wc_seq ?_); intro K hK) | (refine auC ?_) | (refine wc_cond rfl (fun hc => ?_) (fun hc => ?_)) | (refine wc_draw (by kernel_rfl) (by kernel_rfl) (by decide +kernel) ?_; intro w0 hw0 hm0; (try simp only [List.append_eq, List.cons_append, List.nil_append])) | (refine auP ?_) | ((refine auR ?_); clear hK K) | (refine auR ?_) | ((with_reducible refine hK _ _ ?_); clear hK K) | fail)
    refine ⟨i + 1, hlt, by omega, Fits.of ⟨rfl, rfl, rfl, rfl, rfl, rfl, rfl, rfl, rfl, trivial⟩ ?_ rfl⟩
    repeat (first | exact SubL.nil | exact SubL.refl _ | refine SubL.keep ?_ | exact SubL.headA _ _ | refine SubL.keepA ?_ _ | refine SubL.skip ?_ | refine SubL.skipA ?_ _)
  · obtain rfl : i = (flt l ow).length := by omega
    have u1 : decide (((flt l ow).length : Int) < ((flt l ow).length : Int)) = false := decide_eq_false (by omega)
    repeat' (first | (refine wlS ?_) | (refine wlB ?_) | (refine wlE ?_) | (refine efSvao ?_; intro v oa ho) | (refine efBnn ?_; intro n hn) | (refine efB ?_) | (refine efBS ?_) | (refine wl_skip rfl rfl ?_) | (refine wdS ?_) | (refine wdV ?_) | (refine wdB ?_) | (refine wdE ?_) | (refine wd_skip rfl rfl ?_) | ((with_reducible refine seld_nil ?_); refine wd_nil hm0 ?_; clear hm0 hw0) | ((with_reducible refine wc_seq ?_); intro K hK) | (refine auC ?_) | (refine wc_cond rfl (fun hc => ?_) (fun hc => ?_)) | (refine wc_draw (by kernel_rfl) (by kernel_rfl) (by decide +kernel) ?_; intro w0 hw0 hm0; (try simp only [List.append_eq, List.cons_append, List.nil_append])) | (refine auP ?_) | ((refine auR ?_); clear hK K) | (refine auR ?_) | ((with_reducible refine hK _ _ ?_); clear hK K) | fail)
    refine wc_loop (σ := Nat) (fun i => [(0, .int .i64 next), (1, v), (2, .int .i64 ow), (7, ptr b), (9, .int .i64 (dropN S.m ow l.length : Int)), (10, u0), (13, .int .i64 ((flt (l.take i) ow).length : Int)), (46, v), (47, .int .i64 (l.length : Int)), (48, .int .i64 (i : Int))]) (fun i => stoB b g S' ++ (ob ++ oL)) (fun i => i ≤ l.length) (fun i => l.length - i) 0 (Nat.zero_le _)
      (Fits.of ⟨rfl, rfl, rfl, rfl, rfl, rfl, rfl, rfl, rfl, rfl, trivial⟩ (SubL.refl _) rfl) ?_
    rintro i hi2
    by_cases hlt : i < l.length
    · obtain ⟨x, hx⟩ : ∃ x, l[i]? = some x := ⟨l[i]'hlt, List.getElem?_eq_getElem _⟩
      have hax := hbody x (List.mem_of_getElem? hx)
      obtain ⟨p, c, hv, _⟩ := hax.cs.ln.out
      have hget2 : ((hesC l).drop (i * 3)).take 3 = [.int .i64 x.1, .int .i64 x.2.1, .slice p x.2.2.2.length c] := by rw [hesC_get hx, heC, hv]
      have hfs := flt_step (ow := ow) hx
      have u1 : decide ((i : Int) < (l.length : Int)) = true := decide_eq_true (by omega)
      have u2 : IntKind.i64.wrap ((i : Int) + 1) = ((i + 1 : Nat) : Int) := by rw [wrap_i64 _ (by omega) (by omega)]; omega
      have j1 : (i : Int) < (l.length : Int) := by omega
      by_cases hc : x.2.1 = ow
      · have t5 : (x.2.1 != ow) = false := by simpa using hc
        rw [if_pos hc] at hfs
        clear hab habo hbod hbody DO2 NS hax
        repeat' (first | (refine wlS ?_) | (refine wlB ?_) | (refine wlE ?_) | (refine efSvao ?_; intro v oa ho) | (refine efZCnn ?_; intro n hn) | (refine efBnn ?_; intro n hn) | (refine efB ?_) | (refine efBS ?_) | (refine wl_skip rfl rfl ?_) | (refine wdS ?_) | (refine wdV ?_) | (refine wdB ?_) | (refine wdE ?_) | (refine wd_skip rfl rfl ?_) | ((with_reducible refine seld_nil ?_); refine wd_nil hm0 ?_; clear hm0 hw0) | ((with_reducible refine wc_seq ?_); intro K hK) | (refine auC ?_) | (refine wc_cond rfl (fun hc => ?_) (fun hc => ?_)) | (refine wc_draw (by kernel_rfl) (by kernel_rfl) (by decide +kernel) ?_; intro w0 hw0 hm0; (try simp only [List.append_eq, List.cons_append, List.nil_append])) | (refine auP ?_) | ((refine auR ?_); clear hK K) | (refine auR ?_) | ((with_reducible refine hK _ _ ?_); clear hK K) | fail)
        refine ⟨i + 1, hlt, by omega, Fits.of ⟨rfl, rfl, rfl, rfl, rfl, rfl, by rw [hfs]; rfl, rfl, rfl, rfl, trivial⟩ ?_ rfl⟩
        repeat (first | exact SubL.nil | exact SubL.refl _ | refine SubL.keep ?_ | exact SubL.headA _ _ | refine SubL.keepA ?_ _ | refine SubL.skip ?_ | refine SubL.skipA ?_ _)
      · have t5 : (x.2.1 != ow) = true := by simpa using hc
        rw [if_neg hc] at hfs
        have hat := flt_at hx hc
        generalize hq : (flt (l.take i) ow).length = q at *
        have hql := (List.getElem?_eq_some_iff.1 hat).1
        obtain ⟨y, hy⟩ : ∃ y, hs[q]? = some y := ⟨hs[q]'(by omega), List.getElem?_eq_getElem (by omega)⟩
        have hxy : absH y = absH x := by
          have := congrArg (·[q]?) hab
          simpa [hy, hat] using this
        have hy1 : y.1 = x.1 := congrArg (·.1) hxy
        have hy3 : abs y.2.2.2 = abs x.2.2.2 := congrArg (·.2.2) hxy
        have gh := hesC_h hy
        have gv := hesC_v hy
        rw [hy1] at gh
        haveI hAy := hbod y (List.mem_of_getElem? hy)
        haveI hAx := hax.old
        rw [hv] at hAx
        have t6 : decide ((q : Int) ≥ ((flt l ow).length : Int)) = false := decide_eq_false (by omega)
        have t7 : (x.1 != x.1) = false := by simp
        have t8 : (!true) = false := rfl
        have j2 : (q : Int) < ((flt l ow).length : Int) := by omega
        have u3 : IntKind.i64.wrap ((q : Int) + 1) = ((q + 1 : Nat) : Int) := by rw [wrap_i64 _ (by omega) (by omega)]; omega
        have SA := fun w' (h1 : Ats w' y.2.2.1 y.2.2.2) (h2 : Ats w' (.slice p x.2.2.2.length c) x.2.2.2) => sameA_c w' h1 h2 (r := true) (by rw [hy3]; simp)
        clear hab habo hbod hbody DO2 NS hax
        repeat' (first | (refine wlS ?_) | (refine wlB ?_) | ((with_reducible refine sel_call ?_); refine wl_rd rfl rfl (rd_call rfl rfl rfl (fun w hm => by with_reducible exact SA w (VwT.out w hm) (VwT.out w hm))) ?_) | (refine wlE ?_) | (refine efSvao ?_; intro v oa ho) | (refine efZCnn ?_; intro n hn) | (refine efBnn ?_; intro n hn) | (refine efB ?_) | (refine efBS ?_) | (refine wl_skip rfl rfl ?_) | (refine wdS ?_) | (refine wdV ?_) | (refine wdB ?_) | ((with_reducible refine seld_call ?_); refine wd_rd hm0 rfl rfl rfl rfl (rd_call rfl rfl rfl (fun w hm => by with_reducible exact SA w (VwT.out w hm) (VwT.out w hm))) ?_) | (refine wdE ?_) | (refine wd_skip rfl rfl ?_) | ((with_reducible refine seld_nil ?_); refine wd_nil hm0 ?_; clear hm0 hw0) | ((with_reducible refine wc_seq ?_); intro K hK) | (refine auC ?_) | (refine wc_cond rfl (fun hc => ?_) (fun hc => ?_)) | (refine wc_draw (by kernel_rfl) (by kernel_rfl) (by decide +kernel) ?_; intro w0 hw0 hm0; (try simp only [List.append_eq, List.cons_append, List.nil_append])) | (refine auP ?_) | ((refine auR ?_); clear hK K) | (refine auR ?_) | ((with_reducible refine hK _ _ ?_); clear hK K) | fail)
        refine ⟨i + 1, hlt, by omega, Fits.of ⟨rfl, rfl, rfl, rfl, rfl, rfl, by rw [hfs]; rfl, rfl, rfl, rfl, trivial⟩ ?_ rfl⟩
        repeat (first | exact SubL.nil | exact SubL.refl _ | refine SubL.keep ?_ | exact SubL.headA _ _ | refine SubL.keepA ?_ _ | refine SubL.skip ?_ | refine SubL.skipA ?_ _)
    · obtain rfl : i = l.length := by omega
      have u1 : decide ((l.length : Int) < (l.length : Int)) = false := decide_eq_false (by omega)
      rw [List.take_length]
      have t5 : (((flt l ow).length : Int) == ((flt l ow).length : Int)) = true := by simp
      have u2 : IntKind.i64.wrap ((l.length : Int) - ((flt l ow).length : Int)) = (dropN S.m ow l.length : Int) := by rw [wrap_i64 _ (by omega) (by omega), hnn]; omega
      have t6 : ((dropN S.m ow l.length : Int) == (dropN S.m ow l.length : Int)) = true := by simp
      have t7 : (next == next) = true := by simp
      clear hab habo hbod hbody
      repeat' (first | (refine wlS ?_) | (refine wlB ?_) | ((with_reducible refine sel_call ?_); refine wl_rd rfl rfl (rd_call rfl rfl rfl (fun w hm => by with_reducible exact NS w (Mem.hd hm))) ?_) | (refine wlE ?_) | (refine efSvao ?_; intro v oa ho) | (refine efBnn ?_; intro n hn) | (refine efB ?_) | (refine efBS ?_) | (refine wl_skip rfl rfl ?_) | (refine wdS ?_) | (refine wdV ?_) | (refine wdB ?_) | ((with_reducible refine seld_call ?_); refine wd_rd hm0 rfl rfl rfl rfl (rd_call rfl rfl rfl (fun w hm => by with_reducible exact NS w (Mem.hd hm))) ?_) | (refine wdE ?_) | (refine wd_skip rfl rfl ?_) | ((with_reducible refine seld_nil ?_); refine wd_nil hm0 ?_; clear hm0 hw0) | ((with_reducible refine wc_seq ?_); intro K hK) | (refine auC ?_) | (refine wc_cond rfl (fun hc => ?_) (fun hc => ?_)) | (refine wc_draw (by kernel_rfl) (by kernel_rfl) (by decide +kernel) ?_; intro w0 hw0 hm0; (try simp only [List.append_eq, List.cons_append, List.nil_append])) | (refine auP ?_) | ((refine auR ?_); clear hK K) | (refine auR ?_) | ((with_reducible refine hK _ _ ?_); clear hK K) | fail)
      repeat' (first | (refine wlS ?_) | (refine wlB ?_) | (refine wlE ?_) | (refine efSvao ?_; intro v oa ho) | ((with_reducible refine sel_call ?_); first | (refine wl_updO rfl rfl rfl rfl rfl (fun w hm hw => by with_reducible exact DO2 w (Mem.ndS hm) hw) ?_; intro x oa hx)) | (refine efBnn ?_; intro n hn) | (refine efB ?_) | (refine efBS ?_) | (refine wl_skip rfl rfl ?_) | (refine wdS ?_) | (refine wdV ?_) | (refine wdB ?_) | (refine wdE ?_) | (refine wd_skip rfl rfl ?_) | ((with_reducible refine seld_nil ?_); refine wd_nil hm0 ?_; clear hm0 hw0) | ((with_reducible refine wc_seq ?_); intro K hK) | (refine auC ?_) | (refine wc_cond rfl (fun hc => ?_) (fun hc => ?_)) | (refine wc_draw (by kernel_rfl) (by kernel_rfl) (by decide +kernel) ?_; intro w0 hw0 hm0; (try simp only [List.append_eq, List.cons_append, List.nil_append])) | (refine auP ?_) | ((refine auR ?_); clear hK K) | (refine auR ?_) | ((with_reducible refine hK _ _ ?_); clear hK K) | fail)
      obtain ⟨rfl, rfl⟩ := hx
      repeat' (first | (refine wlS ?_) | (refine wlB ?_) | (refine wlE ?_) | (refine efSvao ?_; intro v oa ho) | (refine efBnn ?_; intro n hn) | (refine efB ?_) | (refine efBS ?_) | (refine wl_skip rfl rfl ?_) | (refine wdS ?_) | (refine wdV ?_) | (refine wdB ?_) | (refine wdE ?_) | (refine wd_skip rfl rfl ?_) | ((with_reducible refine seld_nil ?_); refine wd_nil hm0 ?_; clear hm0 hw0) | ((with_reducible refine wc_seq ?_); intro K hK) | (refine auC ?_) | (refine wc_cond rfl (fun hc => ?_) (fun hc => ?_)) | (refine wc_draw (by kernel_rfl) (by kernel_rfl) (by decide +kernel) ?_; intro w0 hw0 hm0; (try simp only [List.append_eq, List.cons_append, List.nil_append])) | (refine auP ?_) | ((refine auR ?_); clear hK K) | (refine auR ?_) | ((with_reducible refine hK _ _ ?_); clear hK K) | fail)
      first | refine end_ret (ResP.tmp rfl ResP.nil) ?_ | refine end_normal (ResP.tmp rfl ResP.nil) ?_
      first | rfl | (show _ = _; rfl) | (simp only [tupV, *]; done)
end Go.Proofs.Ytjianfhodjapgaa.StoreOwnerWalk
