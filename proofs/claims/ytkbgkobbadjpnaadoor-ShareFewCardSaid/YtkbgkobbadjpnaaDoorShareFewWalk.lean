/- ShareFew: the walk. -/
import Derived.Test.YtkbgkobbadjpnaaDoorJnAG
namespace Go.Proofs.YtkbgkobbadjpnaaDoor.ShareFewWalk
open Go.RowKit
set_option linter.unusedVariables false
set_option linter.unusedSimpArgs false
set_option maxRecDepth 100000
set_option maxHeartbeats 16000000 in
theorem walk0 (w : World) (hT : Tab w) {v : Value} {l : List (Int × Nat)} (hs : ShI w v l) (x : Int) (s : Nat) (hsT : s < T256) : Calls Tryd.prog 10 [v, .int .i64 x, nu s].toArray w (Ret (.bool true) w) := by
  have h := hs.cs
  have hy := hs.lt
  have GC := shares_t w hT
  have LC := l_c
  have CC := cmp_nu s SLn hsT SL_T
  clear hs hT
  obtain ⟨m, hm⟩ : ∃ m, m = l.length := ⟨_, rfl⟩
  unfold Shs at h
  rw [← hm] at h
  obtain ⟨pv, cv, rfl, _⟩ := h.ln.out
  have i1 := h.old
  by_cases c1 : 5 < m
  · have t1 : decide ((m : Int) > 5) = true := decide_eq_true (by omega)
    clear h hy CC LC
    refine fn_ret (N := _) Tryd.func10 rfl Tryd.ntmps10 Tryd.results10 (by simp) ?_
    simp only [initS, Nat.reduceAdd, Nat.zero_add]
    repeat' (first | (refine wlS ?_) | (refine wlB ?_) | ((with_reducible refine sel_call ?_); refine wl_rd rfl rfl (rd_call rfl rfl rfl (fun w hm => by with_reducible exact GC w (hm.below rfl))) ?_) | (refine wlE ?_) | (refine efSvao ?_; intro v oa ho) | (refine efZCnn ?_; intro n hn) | (refine efBnn ?_; intro n hn) | (refine efB ?_) | (refine efBS ?_) | (refine wl_skip rfl rfl ?_) | (refine wdS ?_) | (refine wdV ?_) | (refine wdB ?_) | ((with_reducible refine seld_call ?_); refine wd_rd hm0 rfl rfl rfl rfl (rd_call rfl rfl rfl (fun w hm => by with_reducible exact GC w (hm.below rfl))) ?_) | (refine wdE ?_) | (refine wd_allocC hm0 rfl rfl rfl ?_; intro n hn hn0) | (refine wd_alloc hm0 rfl rfl rfl ?_; intro n hn hn0) | (refine wdT ?_) | (refine wdTO ?_) | (refine wd_skip rfl rfl ?_) | ((with_reducible refine seld_nil ?_); refine wd_nil hm0 ?_; clear hm0 hw0) | ((with_reducible refine wc_seq ?_); intro K hK) | (refine auC ?_) | (refine wc_cond rfl (fun hc => ?_) (fun hc => ?_)) | (refine wc_draw (by kernel_rfl) (by kernel_rfl) (by decide +kernel) ?_; intro w0 hw0 hm0; (try simp only [List.append_eq, List.cons_append, List.nil_append])) | (refine auP ?_) | ((refine auR ?_); clear hK K) | (refine auR ?_) | ((with_reducible refine hK _ _ ?_); clear hK K) | fail)
    first | refine end_ret (ResP.tmp rfl ResP.nil) ?_ | refine end_normal (ResP.tmp rfl ResP.nil) ?_
    first | rfl | (show _ = _; rfl) | (simp only [tupV, *]; done)
  have t1 : decide ((m : Int) > 5) = false := decide_eq_false (by omega)
  by_cases c2 : SLn ≤ s
  · have t2 : decide (cmpI s SLn ≥ 0) = true := decide_eq_true (by unfold cmpI; rw [if_neg (by omega)]; split <;> decide)
    clear h hy
    generalize cmpI s SLn = cz at *
    generalize SLn = sl at *
    refine fn_ret (N := _) Tryd.func10 rfl Tryd.ntmps10 Tryd.results10 (by simp) ?_
    simp only [initS, Nat.reduceAdd, Nat.zero_add]
    repeat' (first | (refine wlS ?_) | (refine wlB ?_) | ((with_reducible refine sel_call ?_); refine wl_rd rfl rfl (rd_call rfl rfl rfl (fun w hm => by with_reducible first | exact GC w (hm.below rfl) | exact LC w | exact CC w)) ?_) | (refine wlE ?_) | (refine efSvao ?_; intro v oa ho) | (refine efZCnn ?_; intro n hn) | (refine efBnn ?_; intro n hn) | (refine efB ?_) | (refine efBS ?_) | (refine wl_skip rfl rfl ?_) | (refine wdS ?_) | (refine wdV ?_) | (refine wdB ?_) | ((with_reducible refine seld_call ?_); refine wd_rd hm0 rfl rfl rfl rfl (rd_call rfl rfl rfl (fun w hm => by with_reducible first | exact GC w (hm.below rfl) | exact LC w | exact CC w)) ?_) | (refine wdE ?_) | (refine wd_allocC hm0 rfl rfl rfl ?_; intro n hn hn0) | (refine wd_alloc hm0 rfl rfl rfl ?_; intro n hn hn0) | (refine wdT ?_) | (refine wdTO ?_) | (refine wd_skip rfl rfl ?_) | ((with_reducible refine seld_nil ?_); refine wd_nil hm0 ?_; clear hm0 hw0) | ((with_reducible refine wc_seq ?_); intro K hK) | (refine auC ?_) | (refine wc_cond rfl (fun hc => ?_) (fun hc => ?_)) | (refine wc_draw (by kernel_rfl) (by kernel_rfl) (by decide +kernel) ?_; intro w0 hw0 hm0; (try simp only [List.append_eq, List.cons_append, List.nil_append])) | (refine auP ?_) | ((refine auR ?_); clear hK K) | (refine auR ?_) | ((with_reducible refine hK _ _ ?_); clear hK K) | fail)
    first | refine end_ret (ResP.tmp rfl ResP.nil) ?_ | refine end_normal (ResP.tmp rfl ResP.nil) ?_
    first | rfl | (show _ = _; rfl) | (simp only [tupV, *]; done)
  have hsL : s < SLn := by omega
  have t2 : decide (cmpI s SLn ≥ 0) = false := decide_eq_false (by unfold cmpI; rw [if_pos hsL]; decide)
  have z0 : 0 < SLn := SL_pos
  have z1 : 1 < SLn := by decide +kernel
  have n0 : ((0 : Int) != 0) = false := rfl
  by_cases hx : shErr (l ++ [(x, 0)]) 0 = 0
  · obtain ⟨_, _, _, _, h5⟩ := shErr_zero hx
    have hgl : ShG l := by
      have := h5.take m
      rwa [List.take_left' hm.symm] at this
    obtain ⟨l', rfl, h6, h7⟩ := hgl.nat
    have hxr := h5.1 (x, 0) (by simp)
    obtain ⟨a, rfl⟩ := Int.eq_ofNat_of_zero_le (show 0 ≤ x by have := hxr.1; dsimp only at this; omega)
    have hm' : m = l'.length := by rw [hm, liI_len]
    have eL : ∀ y, liI l' ++ [((a : Int), y)] = liI (l' ++ [(a, y)]) := fun y => by simp [liI]
    have ha : 1 ≤ a ∧ a ≤ 255 := by have := hxr.1; have := hxr.2.1; dsimp only at *; omega
    have aL : a < SLn := Nat.lt_trans (by omega : a < 256) (by decide +kernel)
    have hok : ∀ y, y < SLn → ShOk (l' ++ [(a, y)]) := fun y hy' => ⟨fun q hq => by
      rcases List.mem_append.1 hq with h | h
      · exact h6.small q h
      · obtain rfl := List.mem_singleton.1 h
        exact ⟨aL, hy'⟩, by
      rw [List.map_append, List.nodup_append]
      refine ⟨h6.nd, by simp, fun b hb c hc => ?_⟩
      obtain rfl : c = a := by simpa using hc
      intro e
      subst e
      have nd := h5.2
      rw [List.map_append, List.nodup_append] at nd
      obtain ⟨q, hq, rfl⟩ := List.mem_map.1 hb
      exact nd.2.2 _ (List.mem_map.2 ⟨_, List.mem_map.2 ⟨q, hq, rfl⟩, rfl⟩) _ (by simp) rfl⟩
    have hz1' : ∀ q ∈ l', 1 ≤ q.1 := fun q hq => (h7 q hq).1
    have AT : ∀ y, y < SLn → ∀ {g k : Nat} w', Cs w' (.slice pv m cv) m (recs shE (liI l')) → w'.heap[g]? = some (.cells #[.slice pv m cv] 60) → w'.heap[k]? = some (.cells #[.int .i64 (a : Int)] 3) → Calls Tryd.prog 31 ([nu y] ++ [ptr g, ptr k]).toArray w' (Ret (.tuple #[nu (shAt (l' ++ [(a, y)]) 0), .int .i64 0]) w') := fun y hy' {g k} w' h1 h2 h3 =>
      with_c w' h1 hm.symm (by omega) (a : Int) y (Nat.lt_trans hy' SL_T) h2 h3 fun w'' h4 => by
        have e1 : shErr (liI (l' ++ [(a, y)])) ((0 : Nat) : Int) = 0 := by
          rw [← eL]
          exact (few_err _ _ hy' z0).trans hx
        rw [eL] at h4
        refine at_ok w'' (x := 0) (by unfold Shs; rw [liI_len, List.length_append, List.length_singleton, ← hm']; exact h4) (fun q hq => ?_) (by decide) e1
        rcases List.mem_append.1 hq with h | h
        · exact ⟨(h7 q h).2.1, Nat.lt_trans (h7 q h).2.2 SL_T⟩
        · obtain rfl := List.mem_singleton.1 h
          exact ⟨by dsimp only; omega, Nat.lt_trans hy' SL_T⟩
    have A0 := fun {g k : Nat} => AT 0 z0 (g := g) (k := k)
    have A1 := fun {g k : Nat} => AT 1 z1 (g := g) (k := k)
    have A2 := fun {g k : Nat} => AT (fewY l' a s) (smul_L _ _) (g := g) (k := k)
    rw [few_law (hok 0 z0) hz1' hsL] at A2
    have q0 : decide (sadd (shAt (l' ++ [(a, 1)]) 0) (sneg (shAt (l' ++ [(a, 0)]) 0)) = 0) = false := decide_eq_false (few_slope_ne (hok 0 z0) hz1')
    have r0T : shAt (l' ++ [(a, 0)]) 0 < T256 := Nat.lt_trans (shAt_L _ _) SL_T
    have r1T : shAt (l' ++ [(a, 1)]) 0 < T256 := Nat.lt_trans (shAt_L _ _) SL_T
    have b1 : ((0 : Int) == 0) = true := rfl
    unfold fewY at A2
    clear AT h hy hx hok hz1' h5 h6 h7 hgl hxr eL ha aL c1 c2 hsL z0 z1 hm hm'
    generalize cmpI s SLn = cz at *
    generalize SLn = sl at *
    generalize shAt (l' ++ [(a, 0)]) 0 = R0 at *
    generalize shAt (l' ++ [(a, 1)]) 0 = R1 at *
    generalize recs shE (liI l') = cs at *
    refine fn_ret (N := _) Tryd.func10 rfl Tryd.ntmps10 Tryd.results10 (by simp) ?_
    simp only [initS, Nat.reduceAdd, Nat.zero_add]
    repeat' (first | (refine wlS ?_) | (refine wlB ?_) | (refine wlNL ?_) | (refine wlNB ?_) | (refine wlMF ?_) | (refine wlEQ ?_) | ((with_reducible refine sel_call ?_); first | refine wl_rd rfl rfl (rd_call rfl rfl rfl (fun w hm => by with_reducible first | exact GC w (hm.below rfl) | exact LC w | exact CC w)) ?_ | refine wl_rd rfl rfl (rd_callc rfl rfl rfl rfl (fun w hm => by with_reducible exact A0 w (Vw.out w hm) (Has.sees hm) (Has.sees hm))) ?_ | refine wl_rd rfl rfl (rd_callc rfl rfl rfl rfl (fun w hm => by with_reducible exact A1 w (Vw.out w hm) (Has.sees hm) (Has.sees hm))) ?_ | refine wl_rd rfl rfl (rd_callc rfl rfl rfl rfl (fun w hm => by with_reducible exact A2 w (Vw.out w hm) (Has.sees hm) (Has.sees hm))) ?_ | refine wl_rd rfl rfl (rd_call rfl rfl rfl (fun w _ => by with_reducible exact negS _ (by first | (with_reducible assumption) | (with_reducible exact SmT.out) | decide) w)) ?_ | refine wl_rd rfl rfl (rd_call rfl rfl rfl (fun w _ => by with_reducible exact invS _ (by first | (with_reducible assumption) | (with_reducible exact SmT.out) | decide) w)) ?_ | refine wl_rd rfl rfl (rd_call rfl rfl rfl (fun w _ => by with_reducible exact addS _ _ (by first | (with_reducible assumption) | (with_reducible exact SmT.out) | decide) (by first | (with_reducible assumption) | (with_reducible exact SmT.out) | decide) w)) ?_ | refine wl_rd rfl rfl (rd_call rfl rfl rfl (fun w _ => by with_reducible exact mulS _ _ (by first | (with_reducible assumption) | (with_reducible exact SmT.out) | decide) (by first | (with_reducible assumption) | (with_reducible exact SmT.out) | decide) w)) ?_) | (refine wlE ?_) | (refine efSvao ?_; intro v oa ho) | (refine efZCnn ?_; intro n hn) | (refine efBnn ?_; intro n hn) | (refine efB ?_) | (refine efBS ?_) | (refine wl_skip rfl rfl ?_) | (refine wdS ?_) | (refine wdV ?_) | (refine wdB ?_) | ((with_reducible refine seld_call ?_); refine wd_rd hm0 rfl rfl rfl rfl (rd_call rfl rfl rfl (fun w hm => by with_reducible first | exact GC w (hm.below rfl) | exact LC w | exact CC w)) ?_) | ((with_reducible refine seld_call ?_); refine wd_rd hm0 rfl rfl rfl rfl (rd_callc rfl rfl rfl rfl (fun w hm => by with_reducible exact A0 w (Vw.out w hm) (Has.sees hm) (Has.sees hm))) ?_) | ((with_reducible refine seld_call ?_); refine wd_rd hm0 rfl rfl rfl rfl (rd_callc rfl rfl rfl rfl (fun w hm => by with_reducible exact A1 w (Vw.out w hm) (Has.sees hm) (Has.sees hm))) ?_) | ((with_reducible refine seld_call ?_); refine wd_rd hm0 rfl rfl rfl rfl (rd_callc rfl rfl rfl rfl (fun w hm => by with_reducible exact A2 w (Vw.out w hm) (Has.sees hm) (Has.sees hm))) ?_) | ((with_reducible refine seld_call ?_); refine wd_rd hm0 rfl rfl rfl rfl (rd_call rfl rfl rfl (fun w _ => by with_reducible exact negS _ (by first | (with_reducible assumption) | (with_reducible exact SmT.out) | decide) w)) ?_) | ((with_reducible refine seld_call ?_); refine wd_rd hm0 rfl rfl rfl rfl (rd_call rfl rfl rfl (fun w _ => by with_reducible exact invS _ (by first | (with_reducible assumption) | (with_reducible exact SmT.out) | decide) w)) ?_) | ((with_reducible refine seld_call ?_); refine wd_rd hm0 rfl rfl rfl rfl (rd_call rfl rfl rfl (fun w _ => by with_reducible exact addS _ _ (by first | (with_reducible assumption) | (with_reducible exact SmT.out) | decide) (by first | (with_reducible assumption) | (with_reducible exact SmT.out) | decide) w)) ?_) | ((with_reducible refine seld_call ?_); refine wd_rd hm0 rfl rfl rfl rfl (rd_call rfl rfl rfl (fun w _ => by with_reducible exact mulS _ _ (by first | (with_reducible assumption) | (with_reducible exact SmT.out) | decide) (by first | (with_reducible assumption) | (with_reducible exact SmT.out) | decide) w)) ?_) | (refine wdE ?_) | (refine wd_allocC hm0 rfl rfl rfl ?_; intro n hn hn0) | (refine wd_alloc hm0 rfl rfl rfl ?_; intro n hn hn0) | (refine wdT ?_) | (refine wdTO ?_) | (refine wd_skip rfl rfl ?_) | ((with_reducible refine seld_nil ?_); refine wd_nil hm0 ?_; clear hm0 hw0) | ((with_reducible refine wc_seq ?_); intro K hK) | (refine auC ?_) | (refine wc_cond rfl (fun hc => ?_) (fun hc => ?_)) | (refine wc_draw (by kernel_rfl) (by kernel_rfl) (by decide +kernel) ?_; intro w0 hw0 hm0; (try simp only [List.append_eq, List.cons_append, List.nil_append])) | (refine auP ?_) | ((refine auR ?_); clear hK K) | (refine auR ?_) | ((with_reducible refine hK _ _ ?_); clear hK K) | fail)
    first | refine end_ret (ResP.tmp rfl ResP.nil) ?_ | refine end_normal (ResP.tmp rfl ResP.nil) ?_
    first | rfl | (show _ = _; rfl) | (simp only [tupV, *]; done)
  · have hx1 : shErr (l ++ [(x, 1)]) 0 ≠ 0 := by rw [← few_err l x z0 z1]; exact hx
    have hyA : ∀ y, y < T256 → ∀ q ∈ l ++ [(x, y)], q.2 < T256 := fun y hy' q hq => by
      rcases List.mem_append.1 hq with h | h
      · exact hy q h
      · obtain rfl := List.mem_singleton.1 h
        exact hy'
    have hlen : ∀ y, (l ++ [(x, y)]).length = m + 1 := fun y => by rw [List.length_append, List.length_singleton, hm]
    have A0 : ∀ {g k : Nat} w', Cs w' (.slice pv m cv) m (recs shE l) → w'.heap[g]? = some (.cells #[.slice pv m cv] 60) → w'.heap[k]? = some (.cells #[.int .i64 x] 3) → Calls Tryd.prog 31 ([nu 0] ++ [ptr g, ptr k]).toArray w' (Ret (.tuple #[nu 0, .int .i64 (shErr (l ++ [(x, 0)]) 0)]) w') := fun w' h1 h2 h3 =>
      with_c w' h1 hm.symm (by omega) x 0 (by decide) h2 h3 fun w'' h4 => at_bad w'' (by unfold Shs; rw [hlen]; exact h4) (hyA 0 (by decide)) hx
    have A1 : ∀ {g k : Nat} w', Cs w' (.slice pv m cv) m (recs shE l) → w'.heap[g]? = some (.cells #[.slice pv m cv] 60) → w'.heap[k]? = some (.cells #[.int .i64 x] 3) → Calls Tryd.prog 31 ([nu 1] ++ [ptr g, ptr k]).toArray w' (Ret (.tuple #[nu 0, .int .i64 (shErr (l ++ [(x, 1)]) 0)]) w') := fun w' h1 h2 h3 =>
      with_c w' h1 hm.symm (by omega) x 1 (by decide) h2 h3 fun w'' h4 => at_bad w'' (by unfold Shs; rw [hlen]; exact h4) (hyA 1 (by decide)) hx1
    rw [← few_err l x z0 z1] at A1
    have b2 : (shErr (l ++ [(x, 0)]) 0 != 0) = true := by simpa using hx
    have b3 : (shErr (l ++ [(x, 0)]) 0 == shErr (l ++ [(x, 0)]) 0) = true := by simp
    clear h hy hx hx1 hyA hlen c1 c2 hsT hsL z0 z1
    generalize cmpI s SLn = cz at *
    generalize SLn = sl at *
    generalize shErr (l ++ [(x, 0)]) 0 = E at *
    generalize recs shE l = cs at *
    refine fn_ret (N := _) Tryd.func10 rfl Tryd.ntmps10 Tryd.results10 (by simp) ?_
    simp only [initS, Nat.reduceAdd, Nat.zero_add]
    repeat' (first | (refine wlS ?_) | (refine wlB ?_) | (refine wlNL ?_) | (refine wlNB ?_) | (refine wlMF ?_) | ((with_reducible refine sel_call ?_); first | refine wl_rd rfl rfl (rd_call rfl rfl rfl (fun w hm => by with_reducible first | exact GC w (hm.below rfl) | exact LC w | exact CC w)) ?_ | refine wl_rd rfl rfl (rd_callc rfl rfl rfl rfl (fun w hm => by with_reducible exact A0 w (Vw.out w hm) (Has.sees hm) (Has.sees hm))) ?_ | refine wl_rd rfl rfl (rd_callc rfl rfl rfl rfl (fun w hm => by with_reducible exact A1 w (Vw.out w hm) (Has.sees hm) (Has.sees hm))) ?_) | (refine wlE ?_) | (refine efSvao ?_; intro v oa ho) | (refine efZCnn ?_; intro n hn) | (refine efBnn ?_; intro n hn) | (refine efB ?_) | (refine efBS ?_) | (refine wl_skip rfl rfl ?_) | (refine wdS ?_) | (refine wdV ?_) | (refine wdB ?_) | ((with_reducible refine seld_call ?_); refine wd_rd hm0 rfl rfl rfl rfl (rd_call rfl rfl rfl (fun w hm => by with_reducible first | exact GC w (hm.below rfl) | exact LC w | exact CC w)) ?_) | ((with_reducible refine seld_call ?_); refine wd_rd hm0 rfl rfl rfl rfl (rd_callc rfl rfl rfl rfl (fun w hm => by with_reducible exact A0 w (Vw.out w hm) (Has.sees hm) (Has.sees hm))) ?_) | ((with_reducible refine seld_call ?_); refine wd_rd hm0 rfl rfl rfl rfl (rd_callc rfl rfl rfl rfl (fun w hm => by with_reducible exact A1 w (Vw.out w hm) (Has.sees hm) (Has.sees hm))) ?_) | (refine wdE ?_) | (refine wd_allocC hm0 rfl rfl rfl ?_; intro n hn hn0) | (refine wd_alloc hm0 rfl rfl rfl ?_; intro n hn hn0) | (refine wdT ?_) | (refine wdTO ?_) | (refine wd_skip rfl rfl ?_) | ((with_reducible refine seld_nil ?_); refine wd_nil hm0 ?_; clear hm0 hw0) | ((with_reducible refine wc_seq ?_); intro K hK) | (refine auC ?_) | (refine wc_cond rfl (fun hc => ?_) (fun hc => ?_)) | (refine wc_draw (by kernel_rfl) (by kernel_rfl) (by decide +kernel) ?_; intro w0 hw0 hm0; (try simp only [List.append_eq, List.cons_append, List.nil_append])) | (refine auP ?_) | ((refine auR ?_); clear hK K) | (refine auR ?_) | ((with_reducible refine hK _ _ ?_); clear hK K) | fail)
    first | refine end_ret (ResP.tmp rfl ResP.nil) ?_ | refine end_normal (ResP.tmp rfl ResP.nil) ?_
    first | rfl | (show _ = _; rfl) | (simp only [tupV, *]; done)
theorem walk (w : World) (hT : Tab w) {v : Value} {l : List (Int × Nat)} (hs : ShI w v l) (x : Int) (hx : (Lit.int .i64 x).wf = true) (s : Nat) (hsT : s < T256) : Calls Tryd.prog 10 #[v, .int .i64 x, num s] w (Ret (.bool true) w) := by
  rw [nu_num]
  exact walk0 w hT hs x s hsT
end Go.Proofs.YtkbgkobbadjpnaaDoor.ShareFewWalk
