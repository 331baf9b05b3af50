/- SignBatch: the walk. -/
import Derived.Test.YtkbgkobbadjpnaaDoorSignBt
import Derived.Test.YtkbgkobbadjpnaaDoorOpenEnc
import Derived.Test.YtkbgkobbadjpnaaDoorSeeAll
namespace Go.Proofs.YtkbgkobbadjpnaaDoor.SignBatchWalk
open Go.RowKit
theorem rwA_list (g : Sg) : (rwA g).toList = rwL g := rfl
structure B32At (xs : List Value) (j y : Nat) : Prop where
  out : (xs.drop j).take 32 = bl (lb y)
theorem ld_b32S {X : Cx} {l : Blks} {t n j y : Nat} {u : Value} {xs : List Value} [hu : KD X.P t true] [hs : SZ X.P t 32] [hv : Vw X l u n xs] (hj : B32At xs j y := by with_reducible assumption) : Ld X l t (elB u) (elO u + j) (.agg (bys (lb y))) :=
  ld_OR hj.out (by rw [bl_len, lb_len]) (fun h => by have := bl_len (lb y); rw [h, lb_len] at this; simp at this)
attribute [local irreducible] rwA bys iw
set_option linter.unusedVariables false
set_option linter.unusedSimpArgs false
set_option maxRecDepth 100000
instance cells_sgG {k : Nat} {t s : Value} [h1 : One t] [h2 : One s] : Cells (rwA (sgG k t s)) 34 := ⟨rw_size (sgG_ok h1.out h2.out), rw_one (sgG_ok h1.out h2.out)⟩
set_option maxHeartbeats 32000000 in
theorem walk0 (w : World) (hT : Tab w) {v t u : Value} {ks : List Nat} (hv : Cs w v ks.length (recs b32E ks) ∧ ∀ q ∈ ks, q < T256) {n : Nat} {vs : List Value} {ps : List (List Nat)} (ht : Cll w t n vs ps) (hsz : ∀ p ∈ ps, p.length ≤ 1048576)
    {ws : List Nat} (hu : Cs w u ws.length (recs numE ws) ∧ ∀ q ∈ ws, q < T256) :
    Calls Tryd.prog 7 [v, t, u].toArray w (Ret (.bool true) w) := by
  have i1 := hv.1.old
  have i2 := ht.cs.old
  have i3 := hu.1.old
  have GC := signs_g w hT
  obtain ⟨m, hm⟩ : ∃ m, m = ks.length := ⟨_, rfl⟩
  rw [← hm] at i1
  by_cases c1 : m > 4
  · have t1 : decide ((m : Int) > 4) = true := decide_eq_true (by omega)
    clear hv ht hu hT hsz
    refine fn_ret (N := _) Tryd.func7 rfl Tryd.ntmps7 Tryd.results7 (by simp) ?_
    simp only [initS, Nat.reduceAdd, Nat.zero_add]
    repeat' (first | (refine wlS ?_) | (refine wlB ?_) | ((with_reducible refine sel_call ?_); refine wl_rd rfl rfl (rd_call rfl rfl rfl (fun w hm => by with_reducible exact GC w (hm.below rfl))) ?_) | (refine wlE ?_) | (refine efSvao ?_; intro v oa ho) | (refine efBnn ?_; intro n hn) | (refine efB ?_) | (refine efBS ?_) | (refine wl_skip rfl rfl ?_) | (refine wdS ?_) | (refine wdV ?_) | (refine wdB ?_) | ((with_reducible refine seld_call ?_); refine wd_rd hm0 rfl rfl rfl rfl (rd_call rfl rfl rfl (fun w hm => by with_reducible exact GC w (hm.below rfl))) ?_) | (refine wdE ?_) | (refine wd_alloc hm0 rfl rfl rfl ?_; intro n hn hn0) | (refine wdT ?_) | (refine wdTO ?_) | (refine wd_skip rfl rfl ?_) | ((with_reducible refine seld_nil ?_); refine wd_nil hm0 ?_; clear hm0 hw0) | ((with_reducible refine wc_seq ?_); intro K hK) | (refine auC ?_) | (refine wc_cond rfl (fun hc => ?_) (fun hc => ?_)) | (refine wc_draw (by kernel_rfl) (by kernel_rfl) (by decide +kernel) ?_; intro w0 hw0 hm0; (try simp only [List.append_eq, List.cons_append, List.nil_append])) | (refine auP ?_) | ((refine auR ?_); clear hK K) | (refine auR ?_) | ((with_reducible refine hK _ _ ?_); clear hK K) | fail)
    first | refine end_ret (ResP.tmp rfl ResP.nil) ?_ | refine end_normal (ResP.tmp rfl ResP.nil) ?_
    first | rfl | (show _ = _; rfl) | (simp only [tupV, *]; done)
  have t1 : decide ((m : Int) > 4) = false := decide_eq_false (by omega)
  by_cases c2 : n = m
  rotate_left
  · have t2 : ((n : Int) != (m : Int)) = true := by simpa using (fun h : (n : Int) = m => c2 (by omega))
    clear hv ht hu hT hsz
    refine fn_ret (N := _) Tryd.func7 rfl Tryd.ntmps7 Tryd.results7 (by simp) ?_
    simp only [initS, Nat.reduceAdd, Nat.zero_add]
    repeat' (first | (refine wlS ?_) | (refine wlB ?_) | ((with_reducible refine sel_call ?_); refine wl_rd rfl rfl (rd_call rfl rfl rfl (fun w hm => by with_reducible exact GC w (hm.below rfl))) ?_) | (refine wlE ?_) | (refine efSvao ?_; intro v oa ho) | (refine efBnn ?_; intro n hn) | (refine efB ?_) | (refine efBS ?_) | (refine wl_skip rfl rfl ?_) | (refine wdS ?_) | (refine wdV ?_) | (refine wdB ?_) | ((with_reducible refine seld_call ?_); refine wd_rd hm0 rfl rfl rfl rfl (rd_call rfl rfl rfl (fun w hm => by with_reducible exact GC w (hm.below rfl))) ?_) | (refine wdE ?_) | (refine wd_alloc hm0 rfl rfl rfl ?_; intro n hn hn0) | (refine wdT ?_) | (refine wdTO ?_) | (refine wd_skip rfl rfl ?_) | ((with_reducible refine seld_nil ?_); refine wd_nil hm0 ?_; clear hm0 hw0) | ((with_reducible refine wc_seq ?_); intro K hK) | (refine auC ?_) | (refine wc_cond rfl (fun hc => ?_) (fun hc => ?_)) | (refine wc_draw (by kernel_rfl) (by kernel_rfl) (by decide +kernel) ?_; intro w0 hw0 hm0; (try simp only [List.append_eq, List.cons_append, List.nil_append])) | (refine auP ?_) | ((refine auR ?_); clear hK K) | (refine auR ?_) | ((with_reducible refine hK _ _ ?_); clear hK K) | fail)
    first | refine end_ret (ResP.tmp rfl ResP.nil) ?_ | refine end_normal (ResP.tmp rfl ResP.nil) ?_
    first | rfl | (show _ = _; rfl) | (simp only [tupV, *]; done)
  subst c2
  have t2 : ((n : Int) != (n : Int)) = false := by simp
  by_cases c3 : ws.length = n
  rotate_left
  · have t3 : ((ws.length : Int) != (n : Int)) = true := by simpa using (fun h : (ws.length : Int) = n => c3 (by omega))
    clear hv ht hu hT hsz
    refine fn_ret (N := _) Tryd.func7 rfl Tryd.ntmps7 Tryd.results7 (by simp) ?_
    simp only [initS, Nat.reduceAdd, Nat.zero_add]
    repeat' (first | (refine wlS ?_) | (refine wlB ?_) | ((with_reducible refine sel_call ?_); refine wl_rd rfl rfl (rd_call rfl rfl rfl (fun w hm => by with_reducible exact GC w (hm.below rfl))) ?_) | (refine wlE ?_) | (refine efSvao ?_; intro v oa ho) | (refine efBnn ?_; intro n hn) | (refine efB ?_) | (refine efBS ?_) | (refine wl_skip rfl rfl ?_) | (refine wdS ?_) | (refine wdV ?_) | (refine wdB ?_) | ((with_reducible refine seld_call ?_); refine wd_rd hm0 rfl rfl rfl rfl (rd_call rfl rfl rfl (fun w hm => by with_reducible exact GC w (hm.below rfl))) ?_) | (refine wdE ?_) | (refine wd_alloc hm0 rfl rfl rfl ?_; intro n hn hn0) | (refine wdT ?_) | (refine wdTO ?_) | (refine wd_skip rfl rfl ?_) | ((with_reducible refine seld_nil ?_); refine wd_nil hm0 ?_; clear hm0 hw0) | ((with_reducible refine wc_seq ?_); intro K hK) | (refine auC ?_) | (refine wc_cond rfl (fun hc => ?_) (fun hc => ?_)) | (refine wc_draw (by kernel_rfl) (by kernel_rfl) (by decide +kernel) ?_; intro w0 hw0 hm0; (try simp only [List.append_eq, List.cons_append, List.nil_append])) | (refine auP ?_) | ((refine auR ?_); clear hK K) | (refine auR ?_) | ((with_reducible refine hK _ _ ?_); clear hK K) | fail)
    first | refine end_ret (ResP.tmp rfl ResP.nil) ?_ | refine end_normal (ResP.tmp rfl ResP.nil) ?_
    first | rfl | (show _ = _; rfl) | (simp only [tupV, *]; done)
  rw [c3] at i3
  refine fn_ret (N := _) Tryd.func7 rfl Tryd.ntmps7 Tryd.results7 (by simp) ?_
  simp only [initS, Nat.reduceAdd, Nat.zero_add]
  repeat' (first | (refine wlS ?_) | (refine wlB ?_) | ((with_reducible refine sel_call ?_); refine wl_rd rfl rfl (rd_call rfl rfl rfl (fun w hm => by with_reducible exact GC w (hm.below rfl))) ?_) | (refine wlE ?_) | (refine efSvao ?_; intro v oa ho) | (refine efBnn ?_; intro n hn) | (refine efB ?_) | (refine efBS ?_) | (refine wl_skip rfl rfl ?_) | (refine wdS ?_) | (refine wdV ?_) | (refine wdB ?_) | ((with_reducible refine seld_call ?_); refine wd_rd hm0 rfl rfl rfl rfl (rd_call rfl rfl rfl (fun w hm => by with_reducible exact GC w (hm.below rfl))) ?_) | (refine wdE ?_) | (refine wd_alloc hm0 rfl rfl rfl ?_; intro n hn hn0) | (refine wdT ?_) | (refine wdTO ?_) | (refine wd_skip rfl rfl ?_) | ((with_reducible refine seld_nil ?_); refine wd_nil hm0 ?_; clear hm0 hw0) | ((with_reducible refine wc_seq ?_); intro K hK) | (refine auC ?_) | (refine wc_cond rfl (fun hc => ?_) (fun hc => ?_)) | (refine wc_draw (by kernel_rfl) (by kernel_rfl) (by decide +kernel) ?_; intro w0 hw0 hm0; (try simp only [List.append_eq, List.cons_append, List.nil_append])) | (refine auP ?_) | ((refine auR ?_); clear hK K) | (refine auR ?_) | ((with_reducible refine hK _ _ ?_); clear hK K) | fail)
  clear GC t1
  refine wc_loop (σ := List Sgn × Value × Blks × Blks) (fun x => [(1, t), (2, u), (7, x.2.1), (30, v), (31, .int .i64 (n : Int)), (32, .int .i64 (x.1.length : Int))])
    (fun x => x.2.2.2 ++ x.2.2.1) (fun x => x.1.length ≤ n ∧ BtAll w x.2.2.2 x.2.1 x.2.2.1 x.1) (fun x => n - x.1.length) ([], .slice none 0 0, [], []) ⟨Nat.zero_le _, BtAll.nil w⟩ (Fits.of ⟨rfl, rfl, rfl, rfl, rfl, rfl, trivial⟩ (SubL.refl _) rfl) ?_
  rintro ⟨es, lv, ol, os⟩ ⟨hle, hall⟩
  dsimp only at hle hall ⊢
  obtain ⟨i, hi⟩ : ∃ i, i = es.length := ⟨_, rfl⟩
  obtain ⟨qs, hqs, hown⟩ := hall.own
  rw [← hi] at hle hown ⊢
  haveI := hown
  have ilv : Ln lv i := hown.ln
  by_cases hlt : i < n
  · have w1 : decide ((i : Int) < (n : Int)) = true := decide_eq_true (by omega)
    have w2 : IntKind.i64.wrap ((i : Int) + 1) = ((i + 1 : Nat) : Int) := by rw [wrap_i64 _ (by omega) (by omega)]; omega
    have j1 : (i : Int) < (n : Int) := by omega
    obtain ⟨k, hk⟩ : ∃ k, ks[i]? = some k := ⟨ks[i]'(by omega), List.getElem?_eq_getElem _⟩
    have hkT := hv.2 k (List.mem_of_getElem? hk)
    obtain ⟨tv, p, hx, hp, hcb⟩ := ht.el.at (i := i) (by rw [ht.len]; exact hlt)
    have hpl := hsz p (List.mem_of_getElem? hp)
    obtain ⟨pt, ct, rfl, _⟩ := hcb.cs.ln.out
    have i4 := hcb.old
    haveI o1 : One (.slice pt p.length ct) := ⟨hcb.oneC⟩
    have hget : B32At (recs b32E ks) (i * 32) k := ⟨recs_get b32E hk⟩
    have SC : ∀ w'', Below w.heap.size w w'' → Cb w'' (.slice pt p.length ct) p.length p → Calls Tryd.prog 21 [.agg (bys (lb k)), .slice pt p.length ct].toArray w'' (Ret (.agg (bys (sigL k p))) w'') := fun w'' h h2 => sign_c w hT w'' h k hkT h2 hpl
    have NC : ∀ w'', Below w.heap.size w w'' → Calls Tryd.prog 14 [.agg (bys (lb k))].toArray w'' (Ret (.agg (rwA (sgP (secS k) (mskS k) (lb (pubS k))))) w'') := fun w'' h => new_s w hT w'' h k hkT
    have BN : ∀ b : Nat, ∃ q' : SgV, q'.1 = (pubS k, .slice pt p.length ct, .slice (some ⟨b, 0, none⟩) 64 64) ∧ sgE.enc q' = rwL (sgG (pubS k) (.slice pt p.length ct) (.slice (some ⟨b, 0, none⟩) 64 64)) := fun b => ⟨⟨_, hcb.oneC, rfl⟩, rfl, rfl⟩
    have hno := fun b : Nat => bt_new (os := os) (seed := k) b hcb hpl
    clear hv ht hu hT hsz hk hkT hcb hpl t2 hp
    obtain ⟨A, hA⟩ : ∃ A, A = secS k := ⟨_, rfl⟩
    rw [← hA] at NC
    repeat' (first | (refine wlS ?_) | (refine wlG ?_) | (refine wlB ?_) | ((with_reducible refine sel_load ?_); refine wv rfl rfl (rd_load rfl rfl ld_b32S) ?_) | ((with_reducible refine sel_call ?_); refine wl_rd rfl rfl (rd_call rfl rfl rfl (fun w hm => by with_reducible exact SC w (hm.below rfl) (VwB.out w hm))) ?_) | (refine wlE ?_) | (refine efSvvp ?_; intro v hv hp) | (refine efSvao ?_; intro v oa ho) | (refine efG ?_) | (refine efGnn ?_; intro n hn) | (refine efZCnn ?_; intro n hn) | (refine efBnn ?_; intro n hn) | (refine efB ?_) | (refine efBS ?_) | (refine wl_skip rfl rfl ?_) | (refine wdS ?_) | (refine wdG ?_) | (refine wdV ?_) | (refine wdB ?_) | ((with_reducible refine seld_load ?_); refine wdv hm0 rfl rfl rfl rfl (rd_load rfl rfl ld_b32S) ?_) | ((with_reducible refine seld_call ?_); refine wd_rd hm0 rfl rfl rfl rfl (rd_call rfl rfl rfl (fun w hm => by with_reducible exact SC w (hm.below rfl) (VwB.out w hm))) ?_) | (refine wdE ?_) | (refine wd_allocC hm0 rfl rfl rfl ?_; intro n hn hn0) | (refine wd_alloc hm0 rfl rfl rfl ?_; intro n hn hn0) | (refine wdT ?_) | (refine wdTO ?_) | (refine wd_skip rfl rfl ?_) | ((with_reducible refine seld_nil ?_); refine wd_nil hm0 ?_; clear hm0 hw0) | ((with_reducible refine wc_seq ?_); intro K hK) | (refine auC ?_) | (refine wc_cond rfl (fun hc => ?_) (fun hc => ?_)) | (refine wc_draw (id := 9) (by kernel_rfl) (by kernel_rfl) (by decide +kernel) ?_; intro w0 hw0 hm0; (try simp only [List.append_eq, List.cons_append, List.nil_append])) | ((with_reducible refine wc_drawH _ [11] (by kernel_rfl) (SubL.refl _) ?_); (try simp only [List.append_eq, List.cons_append, List.nil_append, List.length_cons, List.length_nil, Nat.reduceAdd])) | ((with_reducible refine sel_wh ?_); first | (refine wh_take (lq := []) rfl rfl rfl rfl (by first | exact rvS | exact rvG | exact rvB | ((with_reducible apply selr_load); exact rd_load rfl rfl ld_b32S) | exact rvE) (Or.inl rfl) ?_) | (refine wh_take rfl rfl rfl rfl (by first | exact rvS | exact rvG | exact rvB | ((with_reducible apply selr_load); exact rd_load rfl rfl ld_b32S) | exact rvE) (Or.inr ⟨rfl, by decide +kernel⟩) ?_)) | (refine whS ?_; intro v hv hp) | ((with_reducible refine sel_wh ?_); first | (refine wh_pass rfl rfl rfl rfl ?_) | (refine wh_done rfl ?_) | (refine wh_all rfl ?_)) | ((with_reducible refine sel_rest ?_); first | exact rest_nil rfl | refine rest_cons rfl rfl ?_ ?_) | ((with_reducible refine sel_nx ?_); first | refine next_of ?_ | refine next_late (by decide +kernel) ?_) | (refine auP ?_) | ((refine auR ?_); clear hK K) | (refine auR ?_) | ((with_reducible refine hK _ _ ?_); clear hK K) | fail)
    obtain ⟨nS, rfl⟩ : ∃ nS, nS = n := ⟨n, rfl⟩
    obtain ⟨q', hq1, hq2⟩ := BN nS
    have hz : recs sgE qs ++ (rwA (sgG (pubS k) (.slice pt p.length ct) (.slice (some ⟨nS, 0, none⟩) 64 64))).toList = recs sgE (qs ++ [q']) := by
      rw [rwA_list, ← hq2]; exact recs_snoc sgE qs q'
    have s3 : (rwA (sgG (pubS k) (.slice pt p.length ct) (.slice (some ⟨nS, 0, none⟩) 64 64))).toList.length = 1 * 34 := by rw [rwA_list]; exact rwL_len (sgG_ok o1.out rfl)
    have s2 : ∀ y ∈ (rwA (sgG (pubS k) (.slice pt p.length ct) (.slice (some ⟨nS, 0, none⟩) 64 64))).toList, y.oneCell' = true := by rw [rwA_list]; exact List.all_eq_true.1 (rwL_one (sgG_ok o1.out rfl))
    replace hno := hno nS
    clear BN hq2 SC hget
    obtain ⟨z1, hz1⟩ : ∃ z1, z1 = recs sgE (qs ++ [q']) := ⟨_, rfl⟩
    rw [← hz1] at hz
    repeat' (first | (refine wlS ?_) | (refine wlG ?_) | (refine wlB ?_) | ((with_reducible refine sel_call ?_); refine wl_rd rfl rfl (rd_call rfl rfl rfl (fun w hm => by with_reducible exact NC w (hm.below rfl))) ?_) | (refine wlE ?_) | (refine efSvvp ?_; intro v hv hp) | (refine efSvao ?_; intro v oa ho) | (refine efG ?_) | (refine efGnn ?_; intro n hn) | (refine efZCnn ?_; intro n hn) | ((with_reducible refine sel_bslice ?_); first | (refine wl_bslice1 rfl rfl rfl rfl ?_; intro vv oc ho)) | (refine efBnn ?_; intro n hn) | (refine efB ?_) | (refine efBS ?_) | (refine wl_skip rfl rfl ?_) | ((with_reducible refine wc_seq ?_); intro K hK) | (refine auC ?_) | (refine wc_cond rfl (fun hc => ?_) (fun hc => ?_)) | ((with_reducible refine wc_drawH _ [11] (by kernel_rfl) (SubL.refl _) ?_); (try simp only [List.append_eq, List.cons_append, List.nil_append, List.length_cons, List.length_nil, Nat.reduceAdd])) | ((with_reducible refine sel_wh ?_); first | (refine wh_take (lq := []) rfl rfl rfl rfl (by first | exact rvS | exact rvG | exact rvB | exact rvE) (Or.inl rfl) ?_) | (refine wh_take rfl rfl rfl rfl (by first | exact rvS | exact rvG | exact rvB | exact rvE) (Or.inr ⟨rfl, by decide +kernel⟩) ?_)) | (refine whS ?_; intro v hv hp) | ((with_reducible refine sel_wh ?_); first | (refine wh_pass rfl rfl rfl rfl ?_) | (refine wh_done rfl ?_) | (refine wh_all rfl ?_)) | ((with_reducible refine sel_rest ?_); first | exact rest_nil rfl | refine rest_cons rfl rfl ?_ ?_) | ((with_reducible refine sel_nx ?_); first | refine next_of ?_ | refine next_late (by decide +kernel) ?_) | (refine auP ?_) | ((refine auR ?_); clear hK K) | (refine auR ?_) | ((with_reducible refine hK _ _ ?_); clear hK K) | fail)
    obtain ⟨es', hes⟩ : ∃ es', es' = es ++ [sgnOf k (.slice pt p.length ct) p.length p nS] := ⟨_, rfl⟩
    have hl' : es'.length = i + 1 := by rw [hes, List.length_append, List.length_singleton, hi]
    have hall' : BtAll w ((nS, (bys (sigL k p), 43)) :: os) v oa es' := by
      refine ⟨fun e he => ?_, qs ++ [q'], ?_, ?_⟩
      · rw [hes] at he
        rcases List.mem_append.1 he with h | h
        · exact (hall.ok e h).more _
        · obtain rfl := List.mem_singleton.1 h
          exact hno
      · rw [hes, List.map_append, List.map_append, hqs, List.map_singleton, List.map_singleton, hq1]
        rfl
      · rw [hl', ← hz1]; assumption
    refine ⟨(es', v, oa, (nS, (bys (sigL k p), 43)) :: os), ⟨by dsimp only; rw [hl']; exact hlt, hall'⟩, by dsimp only; omega, Fits.of ⟨rfl, rfl, rfl, rfl, rfl, by dsimp only; rw [hl']; rfl, trivial⟩ ?_ rfl⟩
    repeat (first | exact SubL.nil | exact SubL.refl _ | refine SubL.keep ?_ | exact SubL.headA _ _ | refine SubL.keepA ?_ _ | refine SubL.skip ?_ | refine SubL.skipA ?_ _)
  · obtain rfl : i = n := by omega
    have w1 : decide ((i : Int) < (i : Int)) = false := decide_eq_false (by omega)
    have b1 : ((0 : Int) == 0) = true := rfl
    have BC : ∀ w', Below w.heap.size w w' → Hd os w' → Hd ol w' → Cs w' u i (recs numE ws) → Calls Tryd.prog 26 [lv, u].toArray w' (Ret (.int .i64 0) w') := fun w' h1 h2 h3 h4 =>
      batch_c w' (hT.below h1) (hall.ats h1 h2 h3) (by rw [c3]; exact h4) hu.2 (by rw [c3, hi]) (by omega) (.inl ⟨batch_law (fun e he => (hall.ok e he).law) ws es.length (Nat.le_refl _), rfl⟩)
    clear hv ht hu hT hsz hall hqs t2
    repeat' (first | (refine wlS ?_) | (refine wlB ?_) | ((with_reducible refine sel_call ?_); refine wl_rd rfl rfl (rd_call rfl rfl rfl (fun w hm => by with_reducible exact BC w (hm.below rfl) (Hold.out w hm) (Hold.out w hm) (Vw.out w hm))) ?_) | (refine wlE ?_) | (refine efSvao ?_; intro v oa ho) | (refine efBnn ?_; intro n hn) | (refine efB ?_) | (refine efBS ?_) | (refine wl_skip rfl rfl ?_) | (refine wdS ?_) | (refine wdV ?_) | (refine wdB ?_) | ((with_reducible refine seld_call ?_); refine wd_rd hm0 rfl rfl rfl rfl (rd_call rfl rfl rfl (fun w hm => by with_reducible exact BC w (hm.below rfl) (Hold.out w hm) (Hold.out w hm) (Vw.out w hm))) ?_) | (refine wdE ?_) | (refine wd_alloc hm0 rfl rfl rfl ?_; intro n hn hn0) | (refine wdT ?_) | (refine wdTO ?_) | (refine wd_skip rfl rfl ?_) | ((with_reducible refine seld_nil ?_); refine wd_nil hm0 ?_; clear hm0 hw0) | ((with_reducible refine wc_seq ?_); intro K hK) | (refine auC ?_) | (refine wc_cond rfl (fun hc => ?_) (fun hc => ?_)) | (refine wc_draw (by kernel_rfl) (by kernel_rfl) (by decide +kernel) ?_; intro w0 hw0 hm0; (try simp only [List.append_eq, List.cons_append, List.nil_append])) | (refine auP ?_) | ((refine auR ?_); clear hK K) | (refine auR ?_) | ((with_reducible refine hK _ _ ?_); clear hK K) | fail)
    first | refine end_ret (ResP.tmp rfl ResP.nil) ?_ | refine end_normal (ResP.tmp rfl ResP.nil) ?_
    first | rfl | (show _ = _; rfl) | (simp only [tupV, *]; done)
theorem walk (w : World) (hT : Tab w) {v : Value} {ks : List Nat} (hv : Cs w v ks.length (recs b32E ks) ∧ ∀ q ∈ ks, q < T256) {t : Value} {x : Nat × List Value × List (List Nat)} (ht : Cll w t x.1 x.2.1 x.2.2) {u : Value} {ws : List Nat} (hu : Cs w u ws.length (recs numE ws) ∧ ∀ q ∈ ws, q < T256)
    (hsz : (x.2.2.map List.length).sum ≤ 1048576) : Calls Tryd.prog 7 #[v, t, u] w (Ret (.bool true) w) :=
  walk0 w hT hv ht (fun p hp => by
    have : ∀ (l : List (List Nat)), p ∈ l → p.length ≤ (l.map List.length).sum := fun l hl => by
      induction l with
      | nil => cases hl
      | cons a r ih =>
        rw [List.map_cons, List.sum_cons]
        rcases List.mem_cons.1 hl with rfl | h
        · omega
        · have := ih h; omega
    have := this _ hp
    omega) hu
end Go.Proofs.YtkbgkobbadjpnaaDoor.SignBatchWalk

