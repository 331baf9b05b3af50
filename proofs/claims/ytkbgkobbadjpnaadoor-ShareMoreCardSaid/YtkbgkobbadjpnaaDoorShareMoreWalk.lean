/- ShareMore: the walk. -/
import Derived.Test.YtkbgkobbadjpnaaDoorJnAG
namespace Go.Proofs.YtkbgkobbadjpnaaDoor.ShareMoreWalk
open Go.RowKit
set_option linter.unusedVariables false
set_option linter.unusedSimpArgs false
set_option maxRecDepth 100000
instance cells_sh {z : Int} {y : Nat} : Cells (rwA (sgSh z y)) 5 := ⟨rw_size (g := sgSh z y) inferInstance, rw_one (g := sgSh z y) inferInstance⟩
set_option maxHeartbeats 16000000 in
theorem walk0 (w : World) (hT : Tab w) {v : Value} {l : List (Int × Nat)} (hs : ShI w v l) (x z : Int) : Calls Tryd.prog 11 [v, .int .i64 x, .int .i64 z].toArray w (Ret (.bool true) w) := by
  have h := hs.cs
  have hy := hs.lt
  have GC := shares_t w hT
  clear hs hT
  haveI i0 := h.old
  by_cases c1 : 5 < l.length
  · have t1 : decide ((l.length : Int) > 5) = true := decide_eq_true (by omega)
    clear h hy
    refine fn_ret (N := _) Tryd.func11 rfl Tryd.ntmps11 Tryd.results11 (by simp) ?_
    simp only [initS, Nat.reduceAdd, Nat.zero_add]
    repeat' (first | (refine wlS ?_) | (refine wlB ?_) | ((with_reducible refine sel_call ?_); refine wl_rd rfl rfl (rd_call rfl rfl rfl (fun w hm => by with_reducible exact GC w (hm.below rfl))) ?_) | (refine wlE ?_) | (refine efSvao ?_; intro v oa ho) | (refine efBnn ?_; intro n hn) | (refine efB ?_) | (refine efBS ?_) | (refine wl_skip rfl rfl ?_) | (refine wdS ?_) | (refine wdV ?_) | (refine wdB ?_) | ((with_reducible refine seld_call ?_); refine wd_rd hm0 rfl rfl rfl rfl (rd_call rfl rfl rfl (fun w hm => by with_reducible exact GC w (hm.below rfl))) ?_) | (refine wdE ?_) | (refine wd_alloc hm0 rfl rfl rfl ?_; intro n hn hn0) | (refine wdT ?_) | (refine wdTO ?_) | (refine wd_skip rfl rfl ?_) | ((with_reducible refine seld_nil ?_); refine wd_nil hm0 ?_; clear hm0 hw0) | ((with_reducible refine wc_seq ?_); intro K hK) | (refine auC ?_) | (refine wc_cond rfl (fun hc => ?_) (fun hc => ?_)) | (refine wc_draw (by kernel_rfl) (by kernel_rfl) (by decide +kernel) ?_; intro w0 hw0 hm0; (try simp only [List.append_eq, List.cons_append, List.nil_append])) | (refine auP ?_) | ((refine auR ?_); clear hK K) | (refine auR ?_) | ((with_reducible refine hK _ _ ?_); clear hK K) | fail)
    first | refine end_ret (ResP.tmp rfl ResP.nil) ?_ | refine end_normal (ResP.tmp rfl ResP.nil) ?_
    first | rfl | (show _ = _; rfl) | (simp only [tupV, *]; done)
  have t1 : decide ((l.length : Int) > 5) = false := decide_eq_false (by omega)
  by_cases c2 : z < 1
  · have t2 : decide (z < 1) = true := decide_eq_true c2
    clear h hy
    refine fn_ret (N := _) Tryd.func11 rfl Tryd.ntmps11 Tryd.results11 (by simp) ?_
    simp only [initS, Nat.reduceAdd, Nat.zero_add]
    repeat' (first | (refine wlS ?_) | (refine wlB ?_) | ((with_reducible refine sel_call ?_); refine wl_rd rfl rfl (rd_call rfl rfl rfl (fun w hm => by with_reducible exact GC w (hm.below rfl))) ?_) | (refine wlE ?_) | (refine efSvao ?_; intro v oa ho) | (refine efBnn ?_; intro n hn) | (refine efB ?_) | (refine efBS ?_) | (refine wl_skip rfl rfl ?_) | (refine wdS ?_) | (refine wdV ?_) | (refine wdB ?_) | ((with_reducible refine seld_call ?_); refine wd_rd hm0 rfl rfl rfl rfl (rd_call rfl rfl rfl (fun w hm => by with_reducible exact GC w (hm.below rfl))) ?_) | (refine wdE ?_) | (refine wd_alloc hm0 rfl rfl rfl ?_; intro n hn hn0) | (refine wdT ?_) | (refine wdTO ?_) | (refine wd_skip rfl rfl ?_) | ((with_reducible refine seld_nil ?_); refine wd_nil hm0 ?_; clear hm0 hw0) | ((with_reducible refine wc_seq ?_); intro K hK) | (refine auC ?_) | (refine wc_cond rfl (fun hc => ?_) (fun hc => ?_)) | (refine wc_draw (by kernel_rfl) (by kernel_rfl) (by decide +kernel) ?_; intro w0 hw0 hm0; (try simp only [List.append_eq, List.cons_append, List.nil_append])) | (refine auP ?_) | ((refine auR ?_); clear hK K) | (refine auR ?_) | ((with_reducible refine hK _ _ ?_); clear hK K) | fail)
    first | refine end_ret (ResP.tmp rfl ResP.nil) ?_ | refine end_normal (ResP.tmp rfl ResP.nil) ?_
    first | rfl | (show _ = _; rfl) | (simp only [tupV, *]; done)
  have t2 : decide (z < 1) = false := decide_eq_false c2
  by_cases c3 : z > 255
  · have t3 : decide (z > 255) = true := decide_eq_true c3
    clear h hy
    refine fn_ret (N := _) Tryd.func11 rfl Tryd.ntmps11 Tryd.results11 (by simp) ?_
    simp only [initS, Nat.reduceAdd, Nat.zero_add]
    repeat' (first | (refine wlS ?_) | (refine wlB ?_) | ((with_reducible refine sel_call ?_); refine wl_rd rfl rfl (rd_call rfl rfl rfl (fun w hm => by with_reducible exact GC w (hm.below rfl))) ?_) | (refine wlE ?_) | (refine efSvao ?_; intro v oa ho) | (refine efBnn ?_; intro n hn) | (refine efB ?_) | (refine efBS ?_) | (refine wl_skip rfl rfl ?_) | (refine wdS ?_) | (refine wdV ?_) | (refine wdB ?_) | ((with_reducible refine seld_call ?_); refine wd_rd hm0 rfl rfl rfl rfl (rd_call rfl rfl rfl (fun w hm => by with_reducible exact GC w (hm.below rfl))) ?_) | (refine wdE ?_) | (refine wd_alloc hm0 rfl rfl rfl ?_; intro n hn hn0) | (refine wdT ?_) | (refine wdTO ?_) | (refine wd_skip rfl rfl ?_) | ((with_reducible refine seld_nil ?_); refine wd_nil hm0 ?_; clear hm0 hw0) | ((with_reducible refine wc_seq ?_); intro K hK) | (refine auC ?_) | (refine wc_cond rfl (fun hc => ?_) (fun hc => ?_)) | (refine wc_draw (by kernel_rfl) (by kernel_rfl) (by decide +kernel) ?_; intro w0 hw0 hm0; (try simp only [List.append_eq, List.cons_append, List.nil_append])) | (refine auP ?_) | ((refine auR ?_); clear hK K) | (refine auR ?_) | ((with_reducible refine hK _ _ ?_); clear hK K) | fail)
    first | refine end_ret (ResP.tmp rfl ResP.nil) ?_ | refine end_normal (ResP.tmp rfl ResP.nil) ?_
    first | rfl | (show _ = _; rfl) | (simp only [tupV, *]; done)
  have t3 : decide (z > 255) = false := decide_eq_false c3
  obtain ⟨zz, rfl⟩ := Int.eq_ofNat_of_zero_le (show 0 ≤ z by omega)
  obtain ⟨m, hm⟩ : ∃ m, m = l.length := ⟨_, rfl⟩
  unfold Shs at h
  rw [← hm] at h i0 t1
  refine fn_ret (N := _) Tryd.func11 rfl Tryd.ntmps11 Tryd.results11 (by simp) ?_
  simp only [initS, Nat.reduceAdd, Nat.zero_add]
  repeat' (first | (refine wlS ?_) | (refine wlB ?_) | ((with_reducible refine sel_call ?_); refine wl_rd rfl rfl (rd_call rfl rfl rfl (fun w hm => by with_reducible exact GC w (hm.below rfl))) ?_) | (refine wlE ?_) | (refine efSvao ?_; intro v oa ho) | (refine efBnn ?_; intro n hn) | (refine efB ?_) | (refine efBS ?_) | (refine wl_skip rfl rfl ?_) | (refine wdS ?_) | (refine wdV ?_) | (refine wdB ?_) | ((with_reducible refine seld_call ?_); refine wd_rd hm0 rfl rfl rfl rfl (rd_call rfl rfl rfl (fun w hm => by with_reducible exact GC w (hm.below rfl))) ?_) | (refine wdE ?_) | (refine wd_alloc hm0 rfl rfl rfl ?_; intro n hn hn0) | (refine wdT ?_) | (refine wdTO ?_) | (refine wd_skip rfl rfl ?_) | ((with_reducible refine seld_nil ?_); refine wd_nil hm0 ?_; clear hm0 hw0) | ((with_reducible refine wc_seq ?_); intro K hK) | (refine auC ?_) | (refine wc_cond rfl (fun hc => ?_) (fun hc => ?_)) | (refine wc_draw (by kernel_rfl) (by kernel_rfl) (by decide +kernel) ?_; intro w0 hw0 hm0; (try simp only [List.append_eq, List.cons_append, List.nil_append])) | (refine auP ?_) | ((refine auR ?_); clear hK K) | (refine auR ?_) | ((with_reducible refine hK _ _ ?_); clear hK K) | fail)
  refine wc_loop (σ := Nat) (fun i => [(0, v), (1, .int .i64 x), (2, .int .i64 (zz : Int)), (28, v), (29, .int .i64 (m : Int)), (30, .int .i64 (i : Int))])
    (fun _ => []) (fun i => i ≤ m ∧ ∀ q ∈ l.take i, q.1 ≠ (zz : Int)) (fun i => m - i) 0 ⟨Nat.zero_le _, fun q hq => by cases hq⟩ (Fits.of ⟨rfl, rfl, rfl, rfl, rfl, rfl, trivial⟩ (SubL.refl _) rfl) ?_
  clear GC t1 t2 t3
  rintro i ⟨hi, hne⟩
  by_cases hlt : i < m
  · obtain ⟨⟨a, y⟩, hq⟩ : ∃ q, l[i]? = some q := ⟨l[i]'(by omega), List.getElem?_eq_getElem _⟩
    have u1 : decide ((i : Int) < (m : Int)) = true := decide_eq_true (by omega)
    have u2 : IntKind.i64.wrap ((i : Int) + 1) = ((i + 1 : Nat) : Int) := by rw [wrap_i64 _ (by omega) (by omega)]; omega
    have l1 : (i : Int) < (m : Int) := by omega
    have hget : ((recs shE l).drop (i * 5)).take 5 = rwL (sgSh a y) := recs_get shE hq
    have hlen := sgSh_len a y
    have hne' := sgSh_ne a y
    by_cases he : a = (zz : Int)
    · have u3 : (a == (zz : Int)) = true := by simpa using he
      clear h hy hne
      repeat' (first | (refine wlS ?_) | (refine wlG ?_) | (refine wlB ?_) | (refine wlEQ ?_) | (refine wlE ?_) | (refine efSvao ?_; intro v oa ho) | (refine efG ?_) | (refine efGnn ?_; intro n hn) | (refine efBnn ?_; intro n hn) | (refine efB ?_) | (refine efBS ?_) | (refine wl_skip rfl rfl ?_) | (refine wdS ?_) | (refine wdG ?_) | (refine wdV ?_) | (refine wdB ?_) | (refine wdE ?_) | (refine wd_alloc hm0 rfl rfl rfl ?_; intro n hn hn0) | (refine wdT ?_) | (refine wdTO ?_) | (refine wd_skip rfl rfl ?_) | ((with_reducible refine seld_nil ?_); refine wd_nil hm0 ?_; clear hm0 hw0) | ((with_reducible refine wc_seq ?_); intro K hK) | (refine auC ?_) | (refine wc_cond rfl (fun hc => ?_) (fun hc => ?_)) | (refine wc_draw (by kernel_rfl) (by kernel_rfl) (by decide +kernel) ?_; intro w0 hw0 hm0; (try simp only [List.append_eq, List.cons_append, List.nil_append])) | (refine auP ?_) | ((refine auR ?_); clear hK K) | (refine auR ?_) | ((with_reducible refine hK _ _ ?_); clear hK K) | fail)
      first | refine end_ret (ResP.tmp rfl ResP.nil) ?_ | refine end_normal (ResP.tmp rfl ResP.nil) ?_
      first | rfl | (show _ = _; rfl) | (simp only [tupV, *]; done)
    · have u3 : (a == (zz : Int)) = false := by simpa using he
      have hne2 : ∀ q ∈ l.take (i + 1), q.1 ≠ (zz : Int) := fun q hq' => by
        rw [List.take_add_one, hq] at hq'
        rcases List.mem_append.1 hq' with h1 | h1
        · exact hne q h1
        · obtain rfl : q = (a, y) := by simpa using h1
          exact he
      clear h hy hne
      repeat' (first | (refine wlS ?_) | (refine wlG ?_) | (refine wlB ?_) | (refine wlEQ ?_) | (refine wlE ?_) | (refine efSvao ?_; intro v oa ho) | (refine efG ?_) | (refine efGnn ?_; intro n hn) | (refine efBnn ?_; intro n hn) | (refine efB ?_) | (refine efBS ?_) | (refine wl_skip rfl rfl ?_) | (refine wdS ?_) | (refine wdG ?_) | (refine wdV ?_) | (refine wdB ?_) | (refine wdE ?_) | (refine wd_alloc hm0 rfl rfl rfl ?_; intro n hn hn0) | (refine wdT ?_) | (refine wdTO ?_) | (refine wd_skip rfl rfl ?_) | ((with_reducible refine seld_nil ?_); refine wd_nil hm0 ?_; clear hm0 hw0) | ((with_reducible refine wc_seq ?_); intro K hK) | (refine auC ?_) | (refine wc_cond rfl (fun hc => ?_) (fun hc => ?_)) | (refine wc_draw (by kernel_rfl) (by kernel_rfl) (by decide +kernel) ?_; intro w0 hw0 hm0; (try simp only [List.append_eq, List.cons_append, List.nil_append])) | (refine auP ?_) | ((refine auR ?_); clear hK K) | (refine auR ?_) | ((with_reducible refine hK _ _ ?_); clear hK K) | fail)
      exact ⟨i + 1, ⟨hlt, hne2⟩, by omega, Fits.of ⟨rfl, rfl, rfl, rfl, rfl, rfl, trivial⟩ (by repeat (first | exact SubL.nil | exact SubL.refl _ | refine SubL.skip ?_)) rfl⟩
  · obtain rfl : i = m := by omega
    have u1 : decide ((i : Int) < (i : Int)) = false := decide_eq_false (by omega)
    rw [hm, List.take_length] at hne
    have n0 : ((0 : Int) != 0) = false := rfl
    have b1 : ((0 : Int) == 0) = true := rfl
    have CL : ∀ w', Cs w' v i (recs shE l) → Calls Tryd.prog 32 [v].toArray w' (RetO (fun u => u) (fun u oa => OwnL 64 5 u i (recs shE l) oa) w') := fun w' h' => clone_h w' h' hm.symm (by omega)
    have hok : shErr l x = 0 → shErr l (zz : Int) = 0 := fun hx => by
      obtain ⟨h1, h2, h3, h4, h5⟩ := shErr_zero hx
      exact shErr_of h1 h2 (by omega) (by omega) h5
    by_cases hx : shErr l x = 0
    · obtain ⟨h1, h2, h3, h4, h5⟩ := shErr_zero hx
      have hxz := hok hx
      obtain ⟨l', rfl, h6, h7⟩ := h5.nat
      obtain ⟨x', rfl⟩ := Int.eq_ofNat_of_zero_le h3
      have hl7 : ∀ q ∈ l', q.1 < 256 ∧ q.2 < T256 := fun q hq => ⟨(h7 q hq).2.1, Nat.lt_trans (h7 q hq).2.2 SL_T⟩
      have hnz : zz ∉ l'.map (·.1) := fun hmem => by
        obtain ⟨q, hq, hqe⟩ := List.mem_map.1 hmem
        exact hne ((q.1 : Int), q.2) (List.mem_map.2 ⟨q, hq, rfl⟩) (by dsimp only at hqe ⊢; rw [hqe])
      have A1 : ∀ w', Cs w' v i (recs shE (liI l')) → Calls Tryd.prog 29 [v, .int .i64 (x' : Int)].toArray w' (Ret (.tuple #[nu (shAt l' x'), .int .i64 0]) w') := fun w' h' => at_ok w' (by unfold Shs; rw [← hm]; exact h') hl7 (by omega) hx
      have A2 : ∀ w', Cs w' v i (recs shE (liI l')) → Calls Tryd.prog 29 [v, .int .i64 (zz : Int)].toArray w' (Ret (.tuple #[nu (shAt l' zz), .int .i64 0]) w') := fun w' h' => at_ok w' (by unfold Shs; rw [← hm]; exact h') hl7 (by omega) hxz
      have zL : zz < SLn := Nat.lt_trans (by omega : zz < 256) (by decide +kernel)
      have hz7 : ∀ q ∈ l' ++ [(zz, shAt l' zz)], q.1 < 256 ∧ q.2 < T256 := fun q hq => by
        rcases List.mem_append.1 hq with h | h
        · exact hl7 q h
        · obtain rfl : q = (zz, shAt l' zz) := by simpa using h
          exact ⟨by dsimp only; omega, Nat.lt_trans (shAt_L _ _) SL_T⟩
      have hlen' : (l' ++ [(zz, shAt l' zz)]).length = i + 1 := by rw [List.length_append, List.length_singleton, hm, liI_len]
      have hx3 : shErr (liI (l' ++ [(zz, shAt l' zz)])) (x' : Int) = 0 := by
        refine shErr_of (by rw [liI_len, hlen']; omega) (by rw [liI_len, hlen']; omega) h3 h4 ⟨fun q hq => ?_, ?_⟩
        · obtain ⟨r, hr, rfl⟩ := List.mem_map.1 hq
          rcases List.mem_append.1 hr with h | h
          · exact h5.1 _ (List.mem_map.2 ⟨r, h, rfl⟩)
          · obtain rfl : r = (zz, shAt l' zz) := by simpa using h
            exact ⟨by dsimp only; omega, by dsimp only; omega, shAt_L _ _⟩
        · have e : (liI (l' ++ [(zz, shAt l' zz)])).map (·.1) = (liI l').map (·.1) ++ [(zz : Int)] := by simp [liI]
          rw [e, List.nodup_append]
          refine ⟨h5.2, by simp, fun a ha b hb => ?_⟩
          obtain rfl : b = (zz : Int) := by simpa using hb
          obtain ⟨q, hq, rfl⟩ := List.mem_map.1 ha
          exact hne q hq
      have ec : recs shE (liI l') ++ (rwA (sgSh (zz : Int) (shAt l' zz))).toList = recs shE (liI (l' ++ [(zz, shAt l' zz)])) := by
        have := recs_snoc shE (liI l') ((zz : Int), shAt l' zz)
        have e2 : liI (l' ++ [(zz, shAt l' zz)]) = liI l' ++ [((zz : Int), shAt l' zz)] := by simp [liI]
        rw [e2, ← this]; rfl
      have A3 : ∀ {u : Value} w', Cs w' u (i + 1) (recs shE (liI (l' ++ [(zz, shAt l' zz)]))) → Calls Tryd.prog 29 [u, .int .i64 (x' : Int)].toArray w' (Ret (.tuple #[nu (shAt l' x'), .int .i64 0]) w') := fun w' h' => by
        rw [← shAt_more h6 zL hnz x']
        rw [← hlen', ← liI_len] at h'
        exact at_ok w' h' hz7 (by omega) hx3
      have rT : shAt l' x' < T256 := Nat.lt_trans (shAt_L _ _) SL_T
      have yT : shAt l' zz < T256 := Nat.lt_trans (shAt_L _ _) SL_T
      have s1 := rwL_one (g := sgSh (zz : Int) (shAt l' zz)) inferInstance
      have s2 : ∀ y ∈ (rwA (sgSh (zz : Int) (shAt l' zz))).toList, y.oneCell' = true := List.all_eq_true.1 s1
      have s3 : (rwA (sgSh (zz : Int) (shAt l' zz))).toList.length = 1 * 5 := sgSh_len _ _
      have hil : i ≤ 5 := by omega
      clear hl7 h6 h7 hy h hx hxz hok hne hnz hz7 hlen' hx3 h5 c1 c2 c3 h1 h2 h3 h4 zL hi hlt hm
      generalize recs shE (liI (l' ++ [(zz, shAt l' zz)])) = cv at *
      generalize recs shE (liI l') = cs at *
      generalize shAt l' x' = R at *
      generalize shAt l' zz = Y at *
      repeat' (first | (refine wlS ?_) | (refine wlB ?_) | (refine wlNB ?_) | ((with_reducible refine sel_call ?_); refine wl_rd rfl rfl (rd_call rfl rfl rfl (fun w hm => by with_reducible first | exact A1 w (Vw.out w hm) | exact A2 w (Vw.out w hm))) ?_) | (refine wlE ?_) | (refine efSvao ?_; intro v oa ho) | (refine efZCnn ?_; intro n hn) | (refine efBnn ?_; intro n hn) | (refine efB ?_) | (refine efBS ?_) | (refine wl_skip rfl rfl ?_) | ((with_reducible refine wc_seq ?_); intro K hK) | (refine auC ?_) | (refine wc_cond rfl (fun hc => ?_) (fun hc => ?_)) | (refine auP ?_) | ((refine auR ?_); clear hK K) | (refine auR ?_) | ((with_reducible refine hK _ _ ?_); clear hK K) | fail)
      rename_i nY _
      obtain ⟨nX, rfl⟩ : ∃ nX, nX = n := ⟨n, rfl⟩
      have SND : ∀ s l (k : Nat), SubS [(9, ptr nY), (13, ptr k), (14, .int .i64 0)] s → SubPm [(nY, (numC R, 29)), (k, (numC R, 29))] l → K s l := by
        intro s l k h1 h2
        refine hK s l (wc_subP h1 h2 ?_)
        clear hK h1 h2 A1 A2 A3 CL
        repeat' (first | (refine wlS ?_) | (refine wlB ?_) | (refine wlEQ ?_) | (refine wlE ?_) | (refine efSvao ?_; intro v oa ho) | (refine efZCnn ?_; intro n hn) | (refine efBnn ?_; intro n hn) | (refine efB ?_) | (refine efBS ?_) | (refine wl_skip rfl rfl ?_) | (refine wdS ?_) | (refine wdV ?_) | (refine wdB ?_) | (refine wdE ?_) | (refine wd_allocC hm0 rfl rfl rfl ?_; intro n hn hn0) | (refine wd_alloc hm0 rfl rfl rfl ?_; intro n hn hn0) | (refine wdT ?_) | (refine wdTO ?_) | (refine wd_skip rfl rfl ?_) | ((with_reducible refine seld_nil ?_); refine wd_nil hm0 ?_; clear hm0 hw0) | ((with_reducible refine wc_seq ?_); intro K hK) | (refine auC ?_) | (refine wc_cond rfl (fun hc => ?_) (fun hc => ?_)) | (refine wc_draw (by kernel_rfl) (by kernel_rfl) (by decide +kernel) ?_; intro w0 hw0 hm0; (try simp only [List.append_eq, List.cons_append, List.nil_append])) | (refine auP ?_) | ((refine auR ?_); clear hK K) | (refine auR ?_) | ((with_reducible refine hK _ _ ?_); clear hK K) | fail)
        first | refine end_ret (ResP.tmp rfl ResP.nil) ?_ | refine end_normal (ResP.tmp rfl ResP.nil) ?_
        first | rfl | (show _ = _; rfl) | (simp only [tupV, *]; done)
      clear hK
      repeat' (first | (refine wlS ?_) | (refine wlG ?_) | (refine wlB ?_) | ((with_reducible refine sel_call ?_); refine wl_rd rfl rfl (rd_call rfl rfl rfl (fun w hm => by with_reducible exact A3 w (Vw.out w hm))) ?_) | (refine wlE ?_) | (refine efSvao ?_; intro v oa ho) | (refine efG ?_) | (refine efGnn ?_; intro n hn) | (refine efZCnn ?_; intro n hn) | ((with_reducible refine sel_bslice ?_); first | (refine wl_bslice1 rfl rfl rfl rfl ?_; intro vv oa ho)) | ((with_reducible refine sel_call ?_); first | (refine wl_newO rfl rfl rfl rfl rfl (fun w hm => by with_reducible exact CL w (Vw.out w hm)) ?_; intro x oa hx)) | (refine efBnn ?_; intro n hn) | (refine efB ?_) | (refine efBS ?_) | (refine wl_skip rfl rfl ?_) | ((with_reducible refine wc_seq ?_); intro K hK) | (refine auC ?_) | (refine wc_cond rfl (fun hc => ?_) (fun hc => ?_)) | ((with_reducible refine wc_drawT (by kernel_rfl) ?_); (try simp only [List.append_eq, List.cons_append, List.nil_append, List.length_cons, List.length_nil, Nat.reduceAdd])) | ((with_reducible refine sel_wh ?_); (refine wh_if (by decide +kernel) ?_); first | (refine wh_take (lq := []) rfl rfl rfl rfl (by first | exact rvS | exact rvG | exact rvB | exact rvE) (Or.inl rfl) ?_) | (refine wh_takeL rfl rfl rfl rfl (by first | exact rvS | exact rvG | exact rvB | exact rvE) (by decide +kernel) ?_)) | (refine whS ?_; intro v hv hp) | ((with_reducible refine sel_wh ?_); first | (refine wh_pass rfl rfl rfl rfl ?_) | (refine wh_done rfl ?_) | (refine wh_all rfl ?_)) | ((with_reducible refine sel_rest ?_); first | exact rest_nil rfl | refine rest_cons rfl rfl ?_ ?_) | ((with_reducible refine sel_nx ?_); first | refine next_of ?_ | refine next_late (by decide +kernel) ?_) | (refine auP ?_) | ((refine auR ?_); clear hK K) | (refine auR ?_) | ((with_reducible refine hK _ _ ?_); clear hK K) | fail)
      all_goals exact SND _ _ _ ⟨rfl, rfl, rfl, trivial⟩ inferInstance
    · have A1 : ∀ w', Cs w' v i (recs shE l) → Calls Tryd.prog 29 [v, .int .i64 x].toArray w' (Ret (.tuple #[nu 0, .int .i64 (shErr l x)]) w') := fun w' h' => at_bad w' (by unfold Shs; rw [← hm]; exact h') hy hx
      have A2 : ∃ r e, ∀ w', Cs w' v i (recs shE l) → Calls Tryd.prog 29 [v, .int .i64 (zz : Int)].toArray w' (Ret (.tuple #[nu r, .int .i64 e]) w') := by
        by_cases hx3 : shErr l (zz : Int) = 0
        · obtain ⟨h1, h2, h3, h4, h5⟩ := shErr_zero hx3
          obtain ⟨l', rfl, h6, h7⟩ := h5.nat
          exact ⟨shAt l' zz, 0, fun w' h' => at_ok w' (by unfold Shs; rw [← hm]; exact h') (fun q hq => ⟨(h7 q hq).2.1, Nat.lt_trans (h7 q hq).2.2 SL_T⟩) (by omega) hx3⟩
        · exact ⟨0, _, fun w' h' => at_bad w' (by unfold Shs; rw [← hm]; exact h') hy hx3⟩
      obtain ⟨r, e3, A2⟩ := A2
      have b2 : (shErr l x != 0) = true := by simpa using hx
      clear hy h hx hok hne c1 c2 c3 hi hlt hm CL
      generalize shErr l x = E at *
      generalize recs shE l = cs at *
      repeat' (first | (refine wlS ?_) | (refine wlB ?_) | (refine wlNB ?_) | (refine wlEQ ?_) | ((with_reducible refine sel_call ?_); refine wl_rd rfl rfl (rd_call rfl rfl rfl (fun w hm => by with_reducible first | exact A1 w (Vw.out w hm) | exact A2 w (Vw.out w hm))) ?_) | (refine wlE ?_) | (refine efSvao ?_; intro v oa ho) | (refine efZCnn ?_; intro n hn) | (refine efBnn ?_; intro n hn) | (refine efB ?_) | (refine efBS ?_) | (refine wl_skip rfl rfl ?_) | (refine wdS ?_) | (refine wdV ?_) | (refine wdB ?_) | ((with_reducible refine seld_call ?_); refine wd_rd hm0 rfl rfl rfl rfl (rd_call rfl rfl rfl (fun w hm => by with_reducible first | exact A1 w (Vw.out w hm) | exact A2 w (Vw.out w hm))) ?_) | (refine wdE ?_) | (refine wd_allocC hm0 rfl rfl rfl ?_; intro n hn hn0) | (refine wd_alloc hm0 rfl rfl rfl ?_; intro n hn hn0) | (refine wdT ?_) | (refine wdTO ?_) | (refine wd_skip rfl rfl ?_) | ((with_reducible refine seld_nil ?_); refine wd_nil hm0 ?_; clear hm0 hw0) | ((with_reducible refine wc_seq ?_); intro K hK) | (refine auC ?_) | (refine wc_cond rfl (fun hc => ?_) (fun hc => ?_)) | (refine wc_draw (by kernel_rfl) (by kernel_rfl) (by decide +kernel) ?_; intro w0 hw0 hm0; (try simp only [List.append_eq, List.cons_append, List.nil_append])) | (refine auP ?_) | ((refine auR ?_); clear hK K) | (refine auR ?_) | ((with_reducible refine hK _ _ ?_); clear hK K) | fail)
      first | refine end_ret (ResP.tmp rfl ResP.nil) ?_ | refine end_normal (ResP.tmp rfl ResP.nil) ?_
      first | rfl | (show _ = _; rfl) | (simp only [tupV, *]; done)
theorem walk (w : World) (hT : Tab w) {v : Value} {l : List (Int × Nat)} (hs : ShI w v l) (x : Int) (hx : (Lit.int .i64 x).wf = true) (z : Int) (hz : (Lit.int .i64 z).wf = true) : Calls Tryd.prog 11 #[v, .int .i64 x, .int .i64 z] w (Ret (.bool true) w) := walk0 w hT hs x z
end Go.Proofs.YtkbgkobbadjpnaaDoor.ShareMoreWalk
