/- The package sign, walked: Sign. -/
import Derived.Test.YtkbgkobbadjpnaaDoorSign
import Derived.Test.YtkbgkobbadjpnaaDoorSeeAll
namespace Go.Proofs.YtkbgkobbadjpnaaDoor
open Go.RowKit
attribute [local irreducible] rwA bys iw
set_option linter.unusedVariables false
set_option linter.unusedSimpArgs false
set_option maxRecDepth 100000
def rS (seed : Nat) (p : List Nat) : Nat := atl (dgN 3 (mskS seed ++ p))
def sS (seed : Nat) (p : List Nat) : Nat := sadd (rS seed p) (smul (chal (basP (rS seed p)) (pubS seed) p) (secS seed))
theorem rS_L (seed : Nat) (p : List Nat) : rS seed p < SLn := atl_L (dgN_L _ _)
theorem rS_lt (seed : Nat) (p : List Nat) : rS seed p < T256 := Nat.lt_trans (rS_L _ _) SL_T
theorem sS_L (seed : Nat) (p : List Nat) : sS seed p < SLn := sadd_L _ _
theorem sS_lt (seed : Nat) (p : List Nat) : sS seed p < T256 := Nat.lt_trans (sS_L _ _) SL_T
/-- A signature's bytes. -/
def sigL (seed : Nat) (p : List Nat) : List Nat := lb (basP (rS seed p)) ++ lb (sS seed p)
instance (seed : Nat) (p : List Nat) : NBy (sigL seed p) 64 := ⟨by simp [sigL, lb_len]⟩
instance (seed : Nat) (p : List Nat) : BLc 64 (sigL seed p) := ⟨⟨by simp [sigL, lb_len], ByL.out (p := lb _ ++ lb _)⟩, by decide⟩
instance zc_s64 : ZC Tryd.prog 43 (bys (List.replicate 64 0)) := ⟨by kernel_rfl⟩
instance zc_s32 : ZC Tryd.prog 22 (bys (List.replicate 32 0)) := ⟨by kernel_rfl⟩
section
variable {X : Cx} {s : Slots} {l : Blks} {o : Oper} {v : Value} {Q : Post} {ops : Array Oper} {r : List Oper}
/-- Nothing is appended. -/
theorem rd_appendE {x y : Operand} {t e k bytes b off n c : Nat} {z : Array Value} {u : Value} (hop : o.op = .call { callee := .builtin .append, args := #[x, y], argTypes := #[t, t] })
    (hx : val s x = some (.slice (some ⟨b, off, none⟩) n c)) (hy : val s y = some u) [ht : UT X.P t (.slice e)] [hei : EI X.P e k bytes z] [hu : Ln u 0] (hnc : n ≤ c := by omega) : RdV X s l o (.slice (some ⟨b, off, none⟩) n c) := rd_val fun a w he hm => by
  obtain ⟨i, zv, hi, rfl, rfl, hz, rfl, hzs⟩ := hei.out
  obtain ⟨p, c', rfl, _⟩ := hu.out
  have hr : (Builtin.append_ #[t, t] o.type #[.slice (some ⟨b, off, none⟩) n c, .slice p 0 c']).run X.P w = .ok (.slice (some ⟨b, off, none⟩) n c) w := by
    cases p <;> simp [Builtin.append_, run_underlying ht.out, sizeOf, typeInfo, hi, Builtin.lenOf, Builtin.firstCells, loadCells, loadCellsFrom, hnc, storeCells]
  simp only [execOp, hop, resolve, invoke, builtin, Sem.run_bind, Sem.run_pure, Result.andThen_ok, List.map_toArray, List.map_cons, List.map_nil, he.eval hx, he.eval hy, hr]
end
set_option maxHeartbeats 16000000 in
theorem sign_c (w : World) (hT : Tab w) (w' : World) (hb : Below w.heap.size w w') (seed : Nat) (hs : seed < T256) {v : Value} {n : Nat} {p : List Nat} (hq : Cb w' v n p) (hn : n ≤ 1048576) :
    Calls Tryd.prog 21 [.agg (bys (lb seed)), v].toArray w' (Ret (.agg (bys (sigL seed p))) w') := by
  have hT' := hT.below hb
  have NS : ∀ w'', Below w'.heap.size w' w'' → Calls Tryd.prog 14 [.agg (bys (lb seed))].toArray w'' (Ret (.agg (rwA (sgP (secS seed) (mskS seed) (lb (pubS seed))))) w'') := fun w'' h => new_s w' hT' w'' h seed hs
  have D3 : ∀ {u : Value} w'', Below w'.heap.size w' w'' → Cb w'' u (32 + n) (mskS seed ++ p) → Calls Tryd.prog 40 [.int .u8 3, u].toArray w'' (Ret (nu (dgN 3 (mskS seed ++ p))) w'') := fun w'' h1 h2 => dgn_c w' hT' w'' h1 3 (by decide) h2
  have D0 : n = 0 → ∀ {u : Value} w'', Below w'.heap.size w' w'' → Cb w'' u 32 (mskS seed) → Calls Tryd.prog 40 [.int .u8 3, u].toArray w'' (Ret (nu (dgN 3 (mskS seed ++ p))) w'') := fun h0 {u} w'' h1 h2 => by
    have : p = [] := List.eq_nil_of_length_eq_zero (by rw [hq.ok.len, h0])
    subst this
    rw [List.append_nil]
    exact dgn_c w' hT' w'' h1 3 (by decide) h2
  have AC := atl_c (dgN 3 (mskS seed ++ p)) (dgN_lt _ _)
  have e0 : atl (dgN 3 (mskS seed ++ p)) = rS seed p := rfl
  rw [e0] at AC
  have BC := bas_c (rS seed p) (rS_lt _ _)
  have CH : ∀ w'', Below w'.heap.size w' w'' → Cb w'' v n p → Calls Tryd.prog 46 [.agg (bys (lb (basP (rS seed p)))), .agg (bys (lb (pubS seed))), v].toArray w'' (Ret (nu (chal (basP (rS seed p)) (pubS seed) p)) w'') := fun w'' h1 h2 => chal_c w' hT' w'' h1 _ _ h2 hn
  have MC := mulS (chal (basP (rS seed p)) (pubS seed) p) (secS seed) (dgN_lt _ _) (secS_lt _)
  have DC := addS (rS seed p) (smul (chal (basP (rS seed p)) (pubS seed) p) (secS seed)) (rS_lt _ _) (smul_lt _ _)
  have e1 : sadd (rS seed p) (smul (chal (basP (rS seed p)) (pubS seed) p) (secS seed)) = sS seed p := rfl
  rw [e1] at DC
  have YC := bytes_lb (sS seed p) (sS_lt _ _)
  have i1 := hq.old
  haveI : ByL p := ⟨hq.ok.by'⟩
  have e2 : sigL seed p = lb (basP (rS seed p)) ++ lb (sS seed p) := rfl
  rw [e2]
  have hv1 : ∀ F, (List.replicate 64 0).take 0 ++ ((lb F).take 32 ++ (List.replicate 64 0).drop (0 + 32)) = lb F ++ List.replicate 32 0 := fun F => by
    rw [List.take_of_length_le (l := lb F) (by rw [lb_len]; exact Nat.le_refl _), List.take_zero, List.nil_append, List.drop_replicate]
  have hv2 : ∀ F S, (lb F ++ List.replicate 32 0).take 32 ++ ((lb S).take 32 ++ (lb F ++ List.replicate 32 0).drop (32 + 32)) = lb F ++ lb S := fun F S => by
    rw [List.take_left' (lb_len F), List.take_of_length_le (l := lb S) (by rw [lb_len]; exact Nat.le_refl _), List.drop_of_length_le (by simp [lb_len]), List.append_nil]
  have hl1 : 0 + 32 ≤ (List.replicate 64 0).length := by simp
  have hl2 : ∀ F, 32 + 32 ≤ (lb F ++ List.replicate 32 0).length := fun F => by simp [lb_len]
  have k1 : Nat.min 32 64 = 32 := rfl
  have k2 : Nat.min 32 32 = 32 := rfl
  have hv1' := hv1 (basP (rS seed p))
  have hv2' := hv2 (basP (rS seed p)) (sS seed p)
  have hl2' := hl2 (basP (rS seed p))
  haveI nb1 : NBy (lb (basP (rS seed p)) ++ List.replicate 32 0) 64 := ⟨by simp [lb_len]⟩
  haveI nb2 : NBy (lb (basP (rS seed p)) ++ lb (sS seed p)) 64 := ⟨by simp [lb_len]⟩
  clear hT hb hs hT' hq e0 e1 e2 hv1 hv2 hl2
  generalize chal (basP (rS seed p)) (pubS seed) p = C at *
  generalize smul C (secS seed) = CA at *
  generalize basP (rS seed p) = F at *
  generalize rS seed p = R at *
  generalize sS seed p = S' at *
  generalize secS seed = A at *
  generalize pubS seed = K' at *
  generalize dgN 3 (mskS seed ++ p) = D at *
  by_cases h0 : n = 0
  · subst h0
    have D1 := fun {u : Value} => D0 rfl (u := u)
    clear D0 D3
    refine fn_ret (N := _) Tryd.func21 rfl Tryd.ntmps21 Tryd.results21 (by simp) ?_
    simp only [initS, Nat.reduceAdd, Nat.zero_add]
    repeat' (first | (refine wlS ?_) | (refine wlG ?_) | (refine wlB ?_) | ((with_reducible refine sel_call ?_); refine wl_rd rfl rfl (rd_call rfl rfl rfl (fun w hm => by with_reducible first | exact NS w (hm.below rfl) | exact D1 w (hm.below rfl) (VwB.out w hm) | exact AC w | exact BC w | exact CH w (hm.below rfl) (VwB.out w hm) | exact MC w | exact DC w | exact YC w)) ?_) | ((with_reducible refine sel_call ?_); refine wv rfl rfl (rd_appendE rfl rfl rfl) ?_) | (refine wlE ?_) | (refine efSvvp ?_; intro v hv hp) | (refine efSvao ?_; intro v oa ho) | (refine efG ?_) | (refine efGnn ?_; intro n hn) | (refine efZCnn ?_; intro n hn) | (refine efBnn ?_; intro n hn) | (refine efB ?_) | (refine efBS ?_) | (refine wl_skip rfl rfl ?_) | (refine wdS ?_) | (refine wdG ?_) | (refine wdV ?_) | (refine wdB ?_) | ((with_reducible refine seld_call ?_); refine wd_rd hm0 rfl rfl rfl rfl (rd_call rfl rfl rfl (fun w hm => by with_reducible first | exact NS w (hm.below rfl) | exact D1 w (hm.below rfl) (VwB.out w hm) | exact AC w | exact BC w | exact CH w (hm.below rfl) (VwB.out w hm) | exact MC w | exact DC w | exact YC w)) ?_) | ((with_reducible refine seld_call ?_); refine wdv hm0 rfl rfl rfl rfl (rd_appendE rfl rfl rfl) ?_) | (refine wdE ?_) | (refine wd_allocC hm0 rfl rfl rfl ?_; intro n hn hn0) | (refine wd_alloc hm0 rfl rfl rfl ?_; intro n hn hn0) | (refine wdT ?_) | (refine wdTO ?_) | (refine wd_skip rfl rfl ?_) | ((with_reducible refine seld_nil ?_); refine wd_nil hm0 ?_; clear hm0 hw0) | ((with_reducible refine wc_seq ?_); intro K hK) | (refine auC ?_) | (refine wc_cond rfl (fun hc => ?_) (fun hc => ?_)) | (refine wc_draw (id := 4) (by kernel_rfl) (by kernel_rfl) (by decide +kernel) ?_; intro w0 hw0 hm0; (try simp only [List.append_eq, List.cons_append, List.nil_append])) | ((with_reducible refine wc_drawC (by kernel_rfl) ?_); (try simp only [List.append_eq, List.cons_append, List.nil_append, List.length_cons, List.length_nil, Nat.reduceAdd])) | ((with_reducible refine sel_wh ?_); first | (refine wh_take (lq := []) rfl rfl rfl rfl (by first | exact rvS | exact rvG | exact rvB | ((with_reducible apply selr_call); exact rd_appendE rfl rfl rfl) | exact rvE) (Or.inl rfl) ?_) | (refine wh_take rfl rfl rfl rfl (by first | exact rvS | exact rvG | exact rvB | ((with_reducible apply selr_call); exact rd_appendE rfl rfl rfl) | exact rvE) (Or.inr ⟨rfl, by decide +kernel⟩) ?_)) | (refine whS ?_; intro v hv hp) | ((with_reducible refine sel_wh ?_); first | (refine wh_pass rfl rfl rfl rfl ?_) | (refine wh_done rfl ?_) | (refine wh_all rfl ?_)) | ((with_reducible refine sel_rest ?_); first | exact rest_nil rfl | refine rest_cons rfl rfl ?_ ?_) | ((with_reducible refine sel_nx ?_); first | refine next_of ?_ | refine next_late (by decide +kernel) ?_) | (refine auP ?_) | ((refine auR ?_); clear hK K) | (refine auR ?_) | ((with_reducible refine hK _ _ ?_); clear hK K) | fail)
    repeat' (first | (refine wlS ?_) | (refine wlB ?_) | (refine wlE ?_) | (refine efSvvp ?_; intro v hv hp) | (refine efSvao ?_; intro v oa ho) | (refine efM ?_) | (refine efMvao ?_; intro v oa ho) | ((with_reducible refine sel_store ?_); first | (refine wl_putB (e := 5) rfl rfl rfl rfl rfl ?_; intro oa ho)) | (refine efZCnn ?_; intro n hn) | (refine efBnn ?_; intro n hn) | (refine efB ?_) | (refine efBS ?_) | (refine wl_skip rfl rfl ?_) | ((with_reducible refine wc_seq ?_); intro K hK) | (refine auC ?_) | (refine wc_cond rfl (fun hc => ?_) (fun hc => ?_)) | ((with_reducible refine wc_drawC (by kernel_rfl) ?_); (try simp only [List.append_eq, List.cons_append, List.nil_append, List.length_cons, List.length_nil, Nat.reduceAdd])) | ((with_reducible refine sel_wh ?_); first | (refine wh_take (lq := []) rfl rfl rfl rfl (by first | exact rvS | exact rvB | exact rvE) (Or.inl rfl) ?_) | (refine wh_take rfl rfl rfl rfl (by first | exact rvS | exact rvB | exact rvE) (Or.inr ⟨rfl, by decide +kernel⟩) ?_)) | (refine whS ?_; intro v hv hp) | ((with_reducible refine sel_wh ?_); first | (refine wh_pass rfl rfl rfl rfl ?_) | (refine wh_done rfl ?_) | (refine wh_all rfl ?_)) | ((with_reducible refine sel_rest ?_); first | exact rest_nil rfl | refine rest_cons rfl rfl ?_ ?_) | ((with_reducible refine sel_nx ?_); first | refine next_of ?_ | refine next_late (by decide +kernel) ?_) | (refine auP ?_) | ((refine auR ?_); clear hK K) | (refine auR ?_) | ((with_reducible refine hK _ _ ?_); clear hK K) | fail)
    first | refine end_ret (ResP.cell rfl ld_whole ResP.nil) ?_ | refine end_normal (ResP.cell rfl ld_whole ResP.nil) ?_
    first | rfl | (show _ = _; rfl) | (simp only [tupV, *]; done)
  · have h0' : 0 < n := by omega
    clear D0
    refine fn_ret (N := _) Tryd.func21 rfl Tryd.ntmps21 Tryd.results21 (by simp) ?_
    simp only [initS, Nat.reduceAdd, Nat.zero_add]
    repeat' (first | (refine wlS ?_) | (refine wlG ?_) | (refine wlB ?_) | ((with_reducible refine sel_call ?_); refine wl_rd rfl rfl (rd_call rfl rfl rfl (fun w hm => by with_reducible first | exact NS w (hm.below rfl) | exact D3 w (hm.below rfl) (VwB.out w hm) | exact AC w | exact BC w | exact CH w (hm.below rfl) (VwB.out w hm) | exact MC w | exact DC w | exact YC w)) ?_) | (refine wlE ?_) | (refine efSvvp ?_; intro v hv hp) | (refine efSvao ?_; intro v oa ho) | (refine efG ?_) | (refine efGnn ?_; intro n hn) | (refine efAFvao ?_; intro v oa ho) | (refine efZCnn ?_; intro n hn) | (refine efBnn ?_; intro n hn) | (refine efB ?_) | (refine efBS ?_) | (refine wl_skip rfl rfl ?_) | (refine wdS ?_) | (refine wdG ?_) | (refine wdV ?_) | (refine wdB ?_) | ((with_reducible refine seld_call ?_); refine wd_rd hm0 rfl rfl rfl rfl (rd_call rfl rfl rfl (fun w hm => by with_reducible first | exact NS w (hm.below rfl) | exact D3 w (hm.below rfl) (VwB.out w hm) | exact AC w | exact BC w | exact CH w (hm.below rfl) (VwB.out w hm) | exact MC w | exact DC w | exact YC w)) ?_) | (refine wdE ?_) | (refine wd_allocC hm0 rfl rfl rfl ?_; intro n hn hn0) | (refine wd_alloc hm0 rfl rfl rfl ?_; intro n hn hn0) | (refine wdT ?_) | (refine wdTO ?_) | (refine wd_skip rfl rfl ?_) | ((with_reducible refine seld_nil ?_); refine wd_nil hm0 ?_; clear hm0 hw0) | ((with_reducible refine wc_seq ?_); intro K hK) | (refine auC ?_) | (refine wc_cond rfl (fun hc => ?_) (fun hc => ?_)) | (refine wc_draw (id := 4) (by kernel_rfl) (by kernel_rfl) (by decide +kernel) ?_; intro w0 hw0 hm0; (try simp only [List.append_eq, List.cons_append, List.nil_append])) | ((with_reducible refine wc_drawC (by kernel_rfl) ?_); (try simp only [List.append_eq, List.cons_append, List.nil_append, List.length_cons, List.length_nil, Nat.reduceAdd])) | ((with_reducible refine sel_wh ?_); first | (refine wh_take (lq := []) rfl rfl rfl rfl (by first | exact rvS | exact rvG | exact rvB | exact rvE) (Or.inl rfl) ?_) | (refine wh_take rfl rfl rfl rfl (by first | exact rvS | exact rvG | exact rvB | exact rvE) (Or.inr ⟨rfl, by decide +kernel⟩) ?_)) | (refine whS ?_; intro v hv hp) | ((with_reducible refine sel_wh ?_); first | (refine wh_pass rfl rfl rfl rfl ?_) | (refine wh_done rfl ?_) | (refine wh_all rfl ?_)) | ((with_reducible refine sel_rest ?_); first | exact rest_nil rfl | refine rest_cons rfl rfl ?_ ?_) | ((with_reducible refine sel_nx ?_); first | refine next_of ?_ | refine next_late (by decide +kernel) ?_) | (refine auP ?_) | ((refine auR ?_); clear hK K) | (refine auR ?_) | ((with_reducible refine hK _ _ ?_); clear hK K) | fail)
    repeat' (first | (refine wlS ?_) | (refine wlB ?_) | (refine wlE ?_) | (refine efSvvp ?_; intro v hv hp) | (refine efSvao ?_; intro v oa ho) | (refine efM ?_) | (refine efMvao ?_; intro v oa ho) | ((with_reducible refine sel_store ?_); first | (refine wl_putB (e := 5) rfl rfl rfl rfl rfl ?_; intro oa ho)) | (refine efZCnn ?_; intro n hn) | (refine efBnn ?_; intro n hn) | (refine efB ?_) | (refine efBS ?_) | (refine wl_skip rfl rfl ?_) | ((with_reducible refine wc_seq ?_); intro K hK) | (refine auC ?_) | (refine wc_cond rfl (fun hc => ?_) (fun hc => ?_)) | ((with_reducible refine wc_drawC (by kernel_rfl) ?_); (try simp only [List.append_eq, List.cons_append, List.nil_append, List.length_cons, List.length_nil, Nat.reduceAdd])) | ((with_reducible refine sel_wh ?_); first | (refine wh_take (lq := []) rfl rfl rfl rfl (by first | exact rvS | exact rvB | exact rvE) (Or.inl rfl) ?_) | (refine wh_take rfl rfl rfl rfl (by first | exact rvS | exact rvB | exact rvE) (Or.inr ⟨rfl, by decide +kernel⟩) ?_)) | (refine whS ?_; intro v hv hp) | ((with_reducible refine sel_wh ?_); first | (refine wh_pass rfl rfl rfl rfl ?_) | (refine wh_done rfl ?_) | (refine wh_all rfl ?_)) | ((with_reducible refine sel_rest ?_); first | exact rest_nil rfl | refine rest_cons rfl rfl ?_ ?_) | ((with_reducible refine sel_nx ?_); first | refine next_of ?_ | refine next_late (by decide +kernel) ?_) | (refine auP ?_) | ((refine auR ?_); clear hK K) | (refine auR ?_) | ((with_reducible refine hK _ _ ?_); clear hK K) | fail)
    first | refine end_ret (ResP.cell rfl ld_whole ResP.nil) ?_ | refine end_normal (ResP.cell rfl ld_whole ResP.nil) ?_
    first | rfl | (show _ = _; rfl) | (simp only [tupV, *]; done)
end Go.Proofs.YtkbgkobbadjpnaaDoor
