/- SignAgain: the walk. -/
import Derived.Test.YtkbgkobbadjpnaaDoorSignV
import Derived.Test.YtkbgkobbadjpnaaDoorCloneAll
namespace Go.Proofs.YtkbgkobbadjpnaaDoor.SignAgainWalk
open Go.RowKit
attribute [local irreducible] rwA bys iw
set_option linter.unusedVariables false
set_option linter.unusedSimpArgs false
set_option maxRecDepth 100000
/-- The two halves of a signature, as slices. -/
instance {X : Cx} {l : Blks} {g : Nat} {F S' : Nat} {e : Nat} [h : BlkAt l g (bys (lb F ++ lb S'), e)] : VwB X l (.slice (some ⟨g, 32, none⟩) 32 32) 32 (lb S') := ⟨fun w hm => by
  have hg := hm.cls.now g (bys (lb F ++ lb S')) e (mu_mem_of h.out hm.nd)
  refine ⟨⟨⟨_, _, rfl, Nat.le_refl _, by decide, fun _ => ⟨g, 32, rfl⟩⟩, fun j u hj => ⟨g, 32, 32, rfl, ?_⟩⟩, lb_ok S'⟩
  rw [cell_of_row w g (32 + j) _ e _ hg]
  have hl : (bl (lb F)).length = 32 := by rw [bl_len, lb_len]
  unfold bys
  rw [bl_app, List.getElem?_toArray, List.getElem?_append_right (by omega), hl, Nat.add_sub_cancel_left]
  exact hj⟩
instance {X : Cx} {l : Blks} {g : Nat} {F S' : Nat} {e : Nat} [h : BlkAt l g (bys (lb F ++ lb S'), e)] : VwB X l (.slice (some ⟨g, 0, none⟩) 32 64) 32 (lb F) := ⟨fun w hm => by
  have hg := hm.cls.now g (bys (lb F ++ lb S')) e (mu_mem_of h.out hm.nd)
  refine ⟨⟨⟨_, _, rfl, by decide, by decide, fun _ => ⟨g, 0, rfl⟩⟩, fun j u hj => ⟨g, 0, 64, rfl, ?_⟩⟩, lb_ok F⟩
  rw [cell_of_row w g (0 + j) _ e _ hg]
  have hl : (bl (lb F)).length = 32 := by rw [bl_len, lb_len]
  have hj' := (List.getElem?_eq_some_iff.1 hj).1
  unfold bys
  rw [bl_app, List.getElem?_toArray, Nat.zero_add, List.getElem?_append_left (by omega)]
  exact hj⟩
set_option maxHeartbeats 32000000 in
theorem walk0 (w : World) (hT : Tab w) (seed : Nat) (hs : seed < T256) {v : Value} {n : Nat} {p : List Nat} (hq : Cb w v n p) (hn : n ≤ 1048576) (z : Nat) (hz : z < T256) :
    Calls Tryd.prog 6 [.agg (bys (lb seed)), v, nu z].toArray w (Ret (.bool true) w) := by
  have i1 := hq.old
  have SC : ∀ w'', Below w.heap.size w w'' → Cb w'' v n p → Calls Tryd.prog 21 [.agg (bys (lb seed)), v].toArray w'' (Ret (.agg (bys (lb (basP (rS seed p)) ++ lb (sS seed p)))) w'') := fun w'' h h2 => sign_c w hT w'' h seed hs h2 hn
  have NC : ∀ w'', Below w.heap.size w w'' → Calls Tryd.prog 14 [.agg (bys (lb seed))].toArray w'' (Ret (.agg (rwA (sgP (secS seed) (mskS seed) (lb (pubS seed))))) w'') := fun w'' h => new_s w hT w'' h seed hs
  have hc1 : (List.replicate 32 0).take 0 ++ ((lb (sS seed p)).take 32 ++ (List.replicate 32 0).drop (0 + 32)) = lb (sS seed p) := (sig_parts (sS seed p) (sS seed p)).2.2
  have hl1 : 0 + 32 ≤ (List.replicate 32 0).length := by simp
  have k2 : Nat.min 32 32 = 32 := rfl
  have OF := of_lb (sS seed p) (sS_lt _ _)
  have AC := add_nu (sS seed p) z (sS_lt _ _) hz
  have LC := l_c
  have zT : 0 < T256 := by decide
  haveI nb : NBy (lb (basP (rS seed p)) ++ lb (sS seed p)) 64 := ⟨by simp [lb_len]⟩
  have hS := sS_lt seed p
  obtain ⟨E, hE⟩ : ∃ E, E = verI (pubS seed) (basP (rS seed p)) (sS seed p + z) p := ⟨_, rfl⟩
  have g1 : SLn ≤ sS seed p + z → E = 4 := fun h => by rw [hE, sig_great seed p h]
  have g2 : sS seed p + z < SLn → z ≠ 0 → E = 5 := fun h h' => by rw [hE, sig_other seed p h (by omega)]
  have VC : sS seed p + z < T256 → ∀ {u : Value} w'', Below w.heap.size w w'' → Cb w'' v n p → Cb w'' u (32 + 32) (lb (basP (rS seed p)) ++ lb (sS seed p + z)) → Calls Tryd.prog 13 [.agg (bys (lb (pubS seed))), v, u].toArray w'' (Ret (.int .i64 E) w'') := fun fT => by
    intro u w'' h1 h2 h3
    rw [hE]
    exact ver_c w hT w'' h1 _ _ _ (basP_lt _) (basP_lt _) fT h2 hn h3
  have CL : ∀ {u : Value} w'', Cb w'' u 32 (lb (basP (rS seed p))) → Calls Tryd.prog 25 [u].toArray w'' (RetO (fun u => u) (fun u oa => OwnB 5 u 32 (lb (basP (rS seed p))) oa) w'') := fun w'' h => clone_b w'' h (by decide)
  clear hE hT hq hs hn
  generalize basP (rS seed p) = F at *
  generalize sS seed p = S' at *
  generalize secS seed = A at *
  generalize pubS seed = K' at *
  refine fn_ret (N := _) Tryd.func6 rfl Tryd.ntmps6 Tryd.results6 (by simp) ?_
  simp only [initS, Nat.reduceAdd, Nat.zero_add]
  repeat' (first | (refine wlS ?_) | (refine wlG ?_) | (refine wlB ?_) | ((with_reducible refine sel_call ?_); refine wl_rd rfl rfl (rd_call rfl rfl rfl (fun w hm => by with_reducible first | exact SC w (hm.below rfl) (VwB.out w hm) | exact NC w (hm.below rfl))) ?_) | (refine wlE ?_) | (refine efSvvp ?_; intro v hv hp) | (refine efSvao ?_; intro v oa ho) | (refine efG ?_) | (refine efGnn ?_; intro n hn) | (refine efZCnn ?_; intro n hn) | (refine efBnn ?_; intro n hn) | (refine efB ?_) | (refine efBS ?_) | (refine wl_skip rfl rfl ?_) | (refine wdS ?_) | (refine wdG ?_) | (refine wdV ?_) | (refine wdB ?_) | ((with_reducible refine seld_call ?_); refine wd_rd hm0 rfl rfl rfl rfl (rd_call rfl rfl rfl (fun w hm => by with_reducible first | exact SC w (hm.below rfl) (VwB.out w hm) | exact NC w (hm.below rfl))) ?_) | (refine wdE ?_) | (refine wd_allocC hm0 rfl rfl rfl ?_; intro n hn hn0) | (refine wd_alloc hm0 rfl rfl rfl ?_; intro n hn hn0) | (refine wdT ?_) | (refine wdTO ?_) | (refine wd_skip rfl rfl ?_) | ((with_reducible refine seld_nil ?_); refine wd_nil hm0 ?_; clear hm0 hw0) | ((with_reducible refine wc_seq ?_); intro K hK) | (refine auC ?_) | (refine wc_cond rfl (fun hc => ?_) (fun hc => ?_)) | (refine wc_draw (id := 1) (by kernel_rfl) (by kernel_rfl) (by decide +kernel) ?_; intro w0 hw0 hm0; (try simp only [List.append_eq, List.cons_append, List.nil_append])) | ((with_reducible refine wc_drawC (by kernel_rfl) ?_); (try simp only [List.append_eq, List.cons_append, List.nil_append, List.length_cons, List.length_nil, Nat.reduceAdd])) | ((with_reducible refine sel_wh ?_); first | (refine wh_take (lq := []) rfl rfl rfl rfl (by first | exact rvS | exact rvG | exact rvB | exact rvE) (Or.inl rfl) ?_) | (refine wh_take rfl rfl rfl rfl (by first | exact rvS | exact rvG | exact rvB | exact rvE) (Or.inr ⟨rfl, by decide +kernel⟩) ?_)) | (refine whS ?_; intro v hv hp) | ((with_reducible refine sel_wh ?_); first | (refine wh_pass rfl rfl rfl rfl ?_) | (refine wh_done rfl ?_) | (refine wh_all rfl ?_)) | ((with_reducible refine sel_rest ?_); first | exact rest_nil rfl | refine rest_cons rfl rfl ?_ ?_) | ((with_reducible refine sel_nx ?_); first | refine next_of ?_ | refine next_late (by decide +kernel) ?_) | (refine auP ?_) | ((refine auR ?_); clear hK K) | (refine auR ?_) | ((with_reducible refine hK _ _ ?_); clear hK K) | fail)
  repeat' (first | (refine wlS ?_) | (refine wlB ?_) | (refine wlE ?_) | (refine efSvvp ?_; intro v hv hp) | (refine efSvao ?_; intro v oa ho) | (refine efM ?_) | (refine efMvao ?_; intro v oa ho) | ((with_reducible refine sel_store ?_); first | (refine wl_putB (e := 5) rfl rfl rfl rfl rfl ?_; intro oa ho)) | (refine efZCnn ?_; intro n hn) | (refine efBnn ?_; intro n hn) | (refine efB ?_) | (refine efBS ?_) | (refine wl_skip rfl rfl ?_) | ((with_reducible refine wc_seq ?_); intro K hK) | (refine auC ?_) | (refine wc_cond rfl (fun hc => ?_) (fun hc => ?_)) | ((with_reducible refine wc_drawC (by kernel_rfl) ?_); (try simp only [List.append_eq, List.cons_append, List.nil_append, List.length_cons, List.length_nil, Nat.reduceAdd])) | ((with_reducible refine sel_wh ?_); first | (refine wh_take (lq := []) rfl rfl rfl rfl (by first | exact rvS | exact rvB | exact rvE) (Or.inl rfl) ?_) | (refine wh_take rfl rfl rfl rfl (by first | exact rvS | exact rvB | exact rvE) (Or.inr ⟨rfl, by decide +kernel⟩) ?_)) | (refine whS ?_; intro v hv hp) | ((with_reducible refine sel_wh ?_); first | (refine wh_pass rfl rfl rfl rfl ?_) | (refine wh_done rfl ?_) | (refine wh_all rfl ?_)) | ((with_reducible refine sel_rest ?_); first | exact rest_nil rfl | refine rest_cons rfl rfl ?_ ?_) | ((with_reducible refine sel_nx ?_); first | refine next_of ?_ | refine next_late (by decide +kernel) ?_) | (refine auP ?_) | ((refine auR ?_); clear hK K) | (refine auR ?_) | ((with_reducible refine hK _ _ ?_); clear hK K) | fail)
  clear SC NC hc1 hl1 k2
  by_cases h1 : T256 ≤ S' + z
  · have e1 : (S' + z) / T256 = 1 := Nat.div_eq_of_lt_le (by omega) (by omega)
    rw [e1] at AC
    have t1 : (((1 : Nat) : Int) == 1) = true := rfl
    clear h1 e1 VC CL g1 g2 hS
    generalize (S' + z) % T256 = fr at *
    repeat' (first | (refine wlS ?_) | (refine wlG ?_) | (refine wlB ?_) | (refine wlNL ?_) | (refine wlEQ ?_) | ((with_reducible refine sel_call ?_); refine wl_rd rfl rfl (rd_call rfl rfl rfl (fun w hm => by with_reducible first | exact OF w | exact AC w)) ?_) | (refine wlE ?_) | (refine efSvvp ?_; intro v hv hp) | (refine efSvao ?_; intro v oa ho) | (refine efG ?_) | (refine efGnn ?_; intro n hn) | (refine efZCnn ?_; intro n hn) | (refine efBnn ?_; intro n hn) | (refine efB ?_) | (refine efBS ?_) | (refine wl_skip rfl rfl ?_) | (refine wdS ?_) | (refine wdG ?_) | (refine wdV ?_) | (refine wdB ?_) | ((with_reducible refine seld_call ?_); refine wd_rd hm0 rfl rfl rfl rfl (rd_call rfl rfl rfl (fun w hm => by with_reducible first | exact OF w | exact AC w)) ?_) | (refine wdE ?_) | (refine wd_allocC hm0 rfl rfl rfl ?_; intro n hn hn0) | (refine wd_alloc hm0 rfl rfl rfl ?_; intro n hn hn0) | (refine wdT ?_) | (refine wdTO ?_) | (refine wd_skip rfl rfl ?_) | ((with_reducible refine seld_nil ?_); refine wd_nil hm0 ?_; clear hm0 hw0) | ((with_reducible refine wc_seq ?_); intro K hK) | (refine auC ?_) | (refine wc_cond rfl (fun hc => ?_) (fun hc => ?_)) | (refine wc_draw (id := 10) (by kernel_rfl) (by kernel_rfl) (by decide +kernel) ?_; intro w0 hw0 hm0; (try simp only [List.append_eq, List.cons_append, List.nil_append])) | ((with_reducible refine wc_drawC (by kernel_rfl) ?_); (try simp only [List.append_eq, List.cons_append, List.nil_append, List.length_cons, List.length_nil, Nat.reduceAdd])) | ((with_reducible refine sel_wh ?_); first | (refine wh_take (lq := []) rfl rfl rfl rfl (by first | exact rvS | exact rvG | exact rvB | exact rvE) (Or.inl rfl) ?_) | (refine wh_take rfl rfl rfl rfl (by first | exact rvS | exact rvG | exact rvB | exact rvE) (Or.inr ⟨rfl, by decide +kernel⟩) ?_)) | (refine whS ?_; intro v hv hp) | ((with_reducible refine sel_wh ?_); first | (refine wh_pass rfl rfl rfl rfl ?_) | (refine wh_done rfl ?_) | (refine wh_all rfl ?_)) | ((with_reducible refine sel_rest ?_); first | exact rest_nil rfl | refine rest_cons rfl rfl ?_ ?_) | ((with_reducible refine sel_nx ?_); first | refine next_of ?_ | refine next_late (by decide +kernel) ?_) | (refine auP ?_) | ((refine auR ?_); clear hK K) | (refine auR ?_) | ((with_reducible refine hK _ _ ?_); clear hK K) | fail)
    all_goals (first | refine end_ret (ResP.tmp rfl ResP.nil) ?_ | refine end_normal (ResP.tmp rfl ResP.nil) ?_)
    all_goals (first | rfl | (show _ = _; rfl) | (simp only [tupV, *]; done))
  have e1 : (S' + z) / T256 = 0 := Nat.div_eq_of_lt (by omega)
  have e2 : (S' + z) % T256 = S' + z := Nat.mod_eq_of_lt (by omega)
  rw [e1, e2] at AC
  have t1 : (((0 : Nat) : Int) == 1) = false := rfl
  by_cases h2 : z = 0
  · subst h2
    clear h1 e1 e2 VC CL g1 g2 hS
    generalize S' + 0 = fr at *
    repeat' (first | (refine wlS ?_) | (refine wlG ?_) | (refine wlB ?_) | (refine wlNL ?_) | (refine wlEQ ?_) | ((with_reducible refine sel_call ?_); refine wl_rd rfl rfl (rd_call rfl rfl rfl (fun w hm => by with_reducible first | exact OF w | exact AC w)) ?_) | (refine wlE ?_) | (refine efSvvp ?_; intro v hv hp) | (refine efSvao ?_; intro v oa ho) | (refine efG ?_) | (refine efGnn ?_; intro n hn) | (refine efZCnn ?_; intro n hn) | (refine efBnn ?_; intro n hn) | (refine efB ?_) | (refine efBS ?_) | (refine wl_skip rfl rfl ?_) | (refine wdS ?_) | (refine wdG ?_) | (refine wdV ?_) | (refine wdB ?_) | ((with_reducible refine seld_call ?_); refine wd_rd hm0 rfl rfl rfl rfl (rd_call rfl rfl rfl (fun w hm => by with_reducible first | exact OF w | exact AC w)) ?_) | (refine wdE ?_) | (refine wd_allocC hm0 rfl rfl rfl ?_; intro n hn hn0) | (refine wd_alloc hm0 rfl rfl rfl ?_; intro n hn hn0) | (refine wdT ?_) | (refine wdTO ?_) | (refine wd_skip rfl rfl ?_) | ((with_reducible refine seld_nil ?_); refine wd_nil hm0 ?_; clear hm0 hw0) | ((with_reducible refine wc_seq ?_); intro K hK) | (refine auC ?_) | (refine wc_cond rfl (fun hc => ?_) (fun hc => ?_)) | (refine wc_draw (id := 10) (by kernel_rfl) (by kernel_rfl) (by decide +kernel) ?_; intro w0 hw0 hm0; (try simp only [List.append_eq, List.cons_append, List.nil_append])) | ((with_reducible refine wc_drawC (by kernel_rfl) ?_); (try simp only [List.append_eq, List.cons_append, List.nil_append, List.length_cons, List.length_nil, Nat.reduceAdd])) | ((with_reducible refine sel_wh ?_); first | (refine wh_take (lq := []) rfl rfl rfl rfl (by first | exact rvS | exact rvG | exact rvB | exact rvE) (Or.inl rfl) ?_) | (refine wh_take rfl rfl rfl rfl (by first | exact rvS | exact rvG | exact rvB | exact rvE) (Or.inr ⟨rfl, by decide +kernel⟩) ?_)) | (refine whS ?_; intro v hv hp) | ((with_reducible refine sel_wh ?_); first | (refine wh_pass rfl rfl rfl rfl ?_) | (refine wh_done rfl ?_) | (refine wh_all rfl ?_)) | ((with_reducible refine sel_rest ?_); first | exact rest_nil rfl | refine rest_cons rfl rfl ?_ ?_) | ((with_reducible refine sel_nx ?_); first | refine next_of ?_ | refine next_late (by decide +kernel) ?_) | (refine auP ?_) | ((refine auR ?_); clear hK K) | (refine auR ?_) | ((with_reducible refine hK _ _ ?_); clear hK K) | fail)
    all_goals (first | refine end_ret (ResP.tmp rfl ResP.nil) ?_ | refine end_normal (ResP.tmp rfl ResP.nil) ?_)
    all_goals (first | rfl | (show _ = _; rfl) | (simp only [tupV, *]; done))
  have d1 := decide_eq_false h2
  have fT : S' + z < T256 := by omega
  replace VC := fun {u : Value} => VC fT (u := u)
  have YC := bytes_lb (S' + z) fT
  have CC := cmp_nu (S' + z) SLn fT SL_T
  by_cases h3 : SLn ≤ S' + z
  · obtain rfl := g1 h3
    have s3 : decide (cmpI (S' + z) SLn ≥ 0) = true := decide_eq_true (by unfold cmpI; rw [if_neg (by omega)]; split <;> decide)
    have t2 : ((4 : Int) == 4) = true := rfl
    clear h1 h2 h3 e1 e2 g1 g2 hS
    generalize cmpI (S' + z) SLn = cz at *
    generalize SLn = sl at *
    generalize S' + z = fr at *
    repeat' (first | (refine wlS ?_) | (refine wlG ?_) | (refine wlB ?_) | (refine wlNL ?_) | (refine wlEQ ?_) | ((with_reducible refine sel_call ?_); refine wl_rd rfl rfl (rd_call rfl rfl rfl (fun w hm => by with_reducible first | exact OF w | exact AC w | exact YC w | exact VC w (hm.below rfl) (VwB.out w hm) (VwB.out w hm) | exact LC w | exact CC w)) ?_) | (refine wlE ?_) | (refine efSvvp ?_; intro v hv hp) | (refine efSvao ?_; intro v oa ho) | (refine efG ?_) | (refine efGnn ?_; intro n hn) | (refine efZCnn ?_; intro n hn) | ((with_reducible refine sel_call ?_); first | (refine wl_newO rfl rfl rfl rfl rfl (fun w hm => by with_reducible exact CL w (VwB.out w hm)) ?_; intro x oa hx)) | (refine efBnn ?_; intro n hn) | (refine efB ?_) | (refine efBS ?_) | (refine wl_skip rfl rfl ?_) | (refine wdS ?_) | (refine wdG ?_) | (refine wdV ?_) | (refine wdB ?_) | ((with_reducible refine seld_call ?_); refine wd_rd hm0 rfl rfl rfl rfl (rd_call rfl rfl rfl (fun w hm => by with_reducible first | exact OF w | exact AC w | exact YC w | exact VC w (hm.below rfl) (VwB.out w hm) (VwB.out w hm) | exact LC w | exact CC w)) ?_) | (refine wdE ?_) | (refine wd_allocC hm0 rfl rfl rfl ?_; intro n hn hn0) | (refine wd_alloc hm0 rfl rfl rfl ?_; intro n hn hn0) | (refine wdT ?_) | (refine wdTO ?_) | (refine wd_skip rfl rfl ?_) | ((with_reducible refine seld_nil ?_); refine wd_nil hm0 ?_; clear hm0 hw0) | ((with_reducible refine wc_seq ?_); intro K hK) | (refine auC ?_) | (refine wc_cond rfl (fun hc => ?_) (fun hc => ?_)) | (refine wc_draw (id := 10) (by kernel_rfl) (by kernel_rfl) (by decide +kernel) ?_; intro w0 hw0 hm0; (try simp only [List.append_eq, List.cons_append, List.nil_append])) | ((with_reducible refine wc_drawC (by kernel_rfl) ?_); (try simp only [List.append_eq, List.cons_append, List.nil_append, List.length_cons, List.length_nil, Nat.reduceAdd])) | ((with_reducible refine sel_wh ?_); first | (refine wh_take (lq := []) rfl rfl rfl rfl (by first | exact rvS | exact rvG | exact rvB | exact rvE) (Or.inl rfl) ?_) | (refine wh_take rfl rfl rfl rfl (by first | exact rvS | exact rvG | exact rvB | exact rvE) (Or.inr ⟨rfl, by decide +kernel⟩) ?_)) | (refine whS ?_; intro v hv hp) | ((with_reducible refine sel_wh ?_); first | (refine wh_pass rfl rfl rfl rfl ?_) | (refine wh_done rfl ?_) | (refine wh_all rfl ?_)) | ((with_reducible refine sel_rest ?_); first | exact rest_nil rfl | refine rest_cons rfl rfl ?_ ?_) | ((with_reducible refine sel_nx ?_); first | refine next_of ?_ | refine next_late (by decide +kernel) ?_) | (refine auP ?_) | ((refine auR ?_); clear hK K) | (refine auR ?_) | ((with_reducible refine hK _ _ ?_); clear hK K) | fail)
    all_goals (first | refine end_ret (ResP.tmp rfl ResP.nil) ?_ | refine end_normal (ResP.tmp rfl ResP.nil) ?_)
    all_goals (first | rfl | (show _ = _; rfl) | (simp only [tupV, *]; done))
  · obtain rfl := g2 (by omega) h2
    have s3 : decide (cmpI (S' + z) SLn ≥ 0) = false := decide_eq_false (by unfold cmpI; rw [if_pos (by omega)]; decide)
    have t2 : ((5 : Int) == 5) = true := rfl
    clear h1 h2 h3 e1 e2 g1 g2 hS
    generalize cmpI (S' + z) SLn = cz at *
    generalize SLn = sl at *
    generalize S' + z = fr at *
    repeat' (first | (refine wlS ?_) | (refine wlG ?_) | (refine wlB ?_) | (refine wlNL ?_) | (refine wlEQ ?_) | ((with_reducible refine sel_call ?_); refine wl_rd rfl rfl (rd_call rfl rfl rfl (fun w hm => by with_reducible first | exact OF w | exact AC w | exact YC w | exact VC w (hm.below rfl) (VwB.out w hm) (VwB.out w hm) | exact LC w | exact CC w)) ?_) | (refine wlE ?_) | (refine efSvvp ?_; intro v hv hp) | (refine efSvao ?_; intro v oa ho) | (refine efG ?_) | (refine efGnn ?_; intro n hn) | (refine efZCnn ?_; intro n hn) | ((with_reducible refine sel_call ?_); first | (refine wl_newO rfl rfl rfl rfl rfl (fun w hm => by with_reducible exact CL w (VwB.out w hm)) ?_; intro x oa hx)) | (refine efBnn ?_; intro n hn) | (refine efB ?_) | (refine efBS ?_) | (refine wl_skip rfl rfl ?_) | (refine wdS ?_) | (refine wdG ?_) | (refine wdV ?_) | (refine wdB ?_) | ((with_reducible refine seld_call ?_); refine wd_rd hm0 rfl rfl rfl rfl (rd_call rfl rfl rfl (fun w hm => by with_reducible first | exact OF w | exact AC w | exact YC w | exact VC w (hm.below rfl) (VwB.out w hm) (VwB.out w hm) | exact LC w | exact CC w)) ?_) | (refine wdE ?_) | (refine wd_allocC hm0 rfl rfl rfl ?_; intro n hn hn0) | (refine wd_alloc hm0 rfl rfl rfl ?_; intro n hn hn0) | (refine wdT ?_) | (refine wdTO ?_) | (refine wd_skip rfl rfl ?_) | ((with_reducible refine seld_nil ?_); refine wd_nil hm0 ?_; clear hm0 hw0) | ((with_reducible refine wc_seq ?_); intro K hK) | (refine auC ?_) | (refine wc_cond rfl (fun hc => ?_) (fun hc => ?_)) | (refine wc_draw (id := 10) (by kernel_rfl) (by kernel_rfl) (by decide +kernel) ?_; intro w0 hw0 hm0; (try simp only [List.append_eq, List.cons_append, List.nil_append])) | ((with_reducible refine wc_drawC (by kernel_rfl) ?_); (try simp only [List.append_eq, List.cons_append, List.nil_append, List.length_cons, List.length_nil, Nat.reduceAdd])) | ((with_reducible refine sel_wh ?_); first | (refine wh_take (lq := []) rfl rfl rfl rfl (by first | exact rvS | exact rvG | exact rvB | exact rvE) (Or.inl rfl) ?_) | (refine wh_take rfl rfl rfl rfl (by first | exact rvS | exact rvG | exact rvB | exact rvE) (Or.inr ⟨rfl, by decide +kernel⟩) ?_)) | (refine whS ?_; intro v hv hp) | ((with_reducible refine sel_wh ?_); first | (refine wh_pass rfl rfl rfl rfl ?_) | (refine wh_done rfl ?_) | (refine wh_all rfl ?_)) | ((with_reducible refine sel_rest ?_); first | exact rest_nil rfl | refine rest_cons rfl rfl ?_ ?_) | ((with_reducible refine sel_nx ?_); first | refine next_of ?_ | refine next_late (by decide +kernel) ?_) | (refine auP ?_) | ((refine auR ?_); clear hK K) | (refine auR ?_) | ((with_reducible refine hK _ _ ?_); clear hK K) | fail)
    all_goals (first | refine end_ret (ResP.tmp rfl ResP.nil) ?_ | refine end_normal (ResP.tmp rfl ResP.nil) ?_)
    all_goals (first | rfl | (show _ = _; rfl) | (simp only [tupV, *]; done))
theorem walk (w : World) (hT : Tab w) (seed : Nat) (hs : seed < T256) {v : Value} {n : Nat} {p : List Nat} (hq : Cb w v n p) (z : Nat) (hz : z < T256) (hn : n ≤ 1048576) :
    Calls Tryd.prog 6 #[bv seed, v, num z] w (Ret (.bool true) w) := by
  rw [bv_lb, nu_num]
  exact walk0 w hT seed hs hq hn z hz
end Go.Proofs.YtkbgkobbadjpnaaDoor.SignAgainWalk
