/- The package sign, walked: atLeast, base, New, challenge. -/
import Derived.Test.YtkbgkobbadjpnaaDoorBytesAll
import Derived.Test.YtkbgkobbadjpnaaDoorPtAll
namespace Go.Proofs.YtkbgkobbadjpnaaDoor
open Go.RowKit
attribute [local irreducible] rwA bys iw
set_option linter.unusedVariables false
set_option linter.unusedSimpArgs false
set_option maxRecDepth 100000
theorem bytesC_lb (a : Nat) : bytesC a = bys (lb a) := by rw [lb_cells]; unfold bytesC; rfl
theorem bv_lb (a : Nat) : bv a = .agg (bys (lb a)) := by show Value.agg (bytesC a) = _; rw [bytesC_lb]
/-- 32 bytes are a number's. -/
theorem lb_of {d : List Nat} (h : BL 32 d) : ∃ n, n < T256 ∧ d = lb n := by
  obtain ⟨n, hn, he⟩ := byteCells_bv (gf d) (gf_lt h)
  refine ⟨n, hn, ?_⟩
  have e1 : byteCells (gf d) = bys d := by
    unfold byteCells bys bl
    congr 1
    apply List.ext_getElem?
    intro i
    by_cases hi : i < 32
    · have : i < d.length := by rw [h.len]; exact hi
      simp [hi, this, gf, List.getD]
    · have : ¬ i < d.length := by rw [h.len]; exact hi
      simp [hi, this]
  have e2 : bytesC n = bys (lb n) := bytesC_lb n
  rw [e1, e2] at he
  have := congrArg Array.toList he
  simp only [bys, bl] at this
  exact (List.map_inj_right (fun x y h => by injection h with _ h; exact Int.ofNat.inj h)).1 this
theorem lb_inj {a b : Nat} (ha : a < T256) (hb : b < T256) (h : lb a = lb b) : a = b := by
  rw [← fbl_lb ha, ← fbl_lb hb, h]
instance (a : Nat) : NBy (lb a) 32 := ⟨lb_len a⟩
instance (a : Nat) : ByL (lb a) := ⟨(lb_ok a).by'⟩
def atl (a : Nat) : Nat := if a = 0 then 1 else a
theorem atl_ne (a : Nat) : atl a ≠ 0 := by unfold atl; split <;> omega
theorem atl_L {a : Nat} (h : a < SLn) : atl a < SLn := by unfold atl; split; exact (by decide +kernel); exact h
def basP (n : Nat) : Nat := (Pt.base.times n).pack
theorem basP_lt (n : Nat) : basP n < T256 := pack_lt (times_red _ _)
def secS (seed : Nat) : Nat := atl (dgN 1 (lb seed))
def mskS (seed : Nat) : List Nat := ((newH.write [2]).write (lb seed)).sum
def pubS (seed : Nat) : Nat := basP (secS seed)
def chal (r k : Nat) (p : List Nat) : Nat := dgN 4 (lb r ++ lb k ++ p)
theorem secS_L (seed : Nat) : secS seed < SLn := atl_L (dgN_L _ _)
theorem secS_lt (seed : Nat) : secS seed < T256 := Nat.lt_trans (secS_L _) SL_T
instance : ByL [2] := ⟨by simp⟩
instance (seed : Nat) : NBy (mskS seed) 32 := ⟨sum_len (st := (newH.write [2]).write (lb seed)) HSo.out⟩
instance (seed : Nat) : ByL (mskS seed) := inferInstanceAs (ByL (((newH.write [2]).write (lb seed)).sum))
instance (seed : Nat) : BLc 32 (mskS seed) := ⟨⟨NBy.out, ByL.out⟩, by decide⟩
instance seg_numP (n : Nat) : SegL (numC n) 4 := ⟨(numC_cells n).size, (numC_cells n).one⟩
/-- A pair's cells. -/
abbrev sgP (a : Nat) (m k : List Nat) : Sg := [(4, numC a), (32, bys m), (32, bys k)]
instance zg_pair : ZG Tryd.prog 31 (sgP 0 (List.replicate 32 0) (List.replicate 32 0)) := ⟨by kernel_rfl, inferInstance⟩
/-- The mask's slice. -/
instance {X : Cx} {l : Blks} {g : Nat} {p q : List Nat} {e a : Nat} [hn : NBy p 32] [h : BlkAt l g (rwA (sgP a p q), e)] [h' : BLc 32 p] : VwB X l (.slice (some ⟨g, 4, none⟩) 32 32) 32 p := ⟨fun w hm => by
  have hg := hm.cls.now g (rwA (sgP a p q)) e (mu_mem_of h.out hm.nd)
  refine ⟨⟨⟨_, _, rfl, Nat.le_refl _, by simp only [maxLen]; omega, fun _ => ⟨g, 4, rfl⟩⟩, fun j u hj => ⟨g, 4, 32, rfl, ?_⟩⟩, h'.out⟩
  rw [cell_of_row w g (4 + j) (rwA (sgP a p q)) e _ hg]
  have hl : (bl p).length = 32 := by rw [bl_len, hn.out]
  have h4 : (numC a).size = 4 := (numC_cells a).size
  have hj' := (List.getElem?_eq_some_iff.1 hj).1
  unfold rwA
  simp only [rwL, List.map_cons, List.flatten_cons, List.getElem?_toArray]
  rw [List.getElem?_append_right (by simp [h4]), List.getElem?_append_left (by simp [h4, bys]; omega)]
  simpa [h4, bys] using hj⟩
set_option maxHeartbeats 2000000 in
theorem atl_c (a : Nat) (ha : a < T256) (w : World) : Calls Tryd.prog 39 [nu a].toArray w (Ret (nu (atl a)) w) := by
  have h0 : 0 < T256 := by decide
  by_cases h : a = 0
  · subst h
    have e : atl 0 = 1 := rfl
    rw [e]
    refine fn_ret (N := _) Tryd.func39 rfl Tryd.ntmps39 Tryd.results39 (by simp) ?_
    simp only [initS, Nat.reduceAdd, Nat.zero_add]
    repeat' (first | (refine wlB ?_) | (refine wlNL ?_) | (refine wlEQ ?_) | (refine wlE ?_) | (refine efZCnn ?_; intro n hn) | (refine efBnn ?_; intro n hn) | (refine efB ?_) | (refine wl_skip rfl rfl ?_) | ((with_reducible refine wc_seq ?_); intro K hK) | (refine auC ?_) | (refine wc_cond rfl (fun hc => ?_) (fun hc => ?_)) | (refine wc_draw (by kernel_rfl) (by kernel_rfl) (by decide +kernel) ?_; intro w0 hw0 hm0; (try simp only [List.append_eq, List.cons_append, List.nil_append])) | (refine auP ?_) | ((refine auR ?_); clear hK K) | (refine auR ?_) | ((with_reducible refine hK _ _ ?_); clear hK K) | fail)
    first | refine end_ret (ResP.cell rfl ld_whole ResP.nil) ?_ | refine end_normal (ResP.cell rfl ld_whole ResP.nil) ?_
    first | rfl | (show _ = _; rfl) | (simp only [tupV, *]; done)
  · have e : atl a = a := by unfold atl; rw [if_neg h]
    have d1 := decide_eq_false h
    rw [e]
    clear h e
    refine fn_ret (N := _) Tryd.func39 rfl Tryd.ntmps39 Tryd.results39 (by simp) ?_
    simp only [initS, Nat.reduceAdd, Nat.zero_add]
    repeat' (first | (refine wlB ?_) | (refine wlNL ?_) | (refine wlEQ ?_) | (refine wlE ?_) | (refine efZCnn ?_; intro n hn) | (refine efBnn ?_; intro n hn) | (refine efB ?_) | (refine wl_skip rfl rfl ?_) | ((with_reducible refine wc_seq ?_); intro K hK) | (refine auC ?_) | (refine wc_cond rfl (fun hc => ?_) (fun hc => ?_)) | (refine wc_draw (by kernel_rfl) (by kernel_rfl) (by decide +kernel) ?_; intro w0 hw0 hm0; (try simp only [List.append_eq, List.cons_append, List.nil_append])) | (refine auP ?_) | ((refine auR ?_); clear hK K) | (refine auR ?_) | ((with_reducible refine hK _ _ ?_); clear hK K) | fail)
    first | refine end_ret (ResP.cell rfl ld_whole ResP.nil) ?_ | refine end_normal (ResP.cell rfl ld_whole ResP.nil) ?_
    first | rfl | (show _ = _; rfl) | (simp only [tupV, *]; done)
set_option maxHeartbeats 4000000 in
theorem bas_c (n : Nat) (hn : n < T256) (w : World) : Calls Tryd.prog 44 [nu n].toArray w (Ret (.agg (bys (lb (basP n)))) w) := by
  have BC := base_c
  have TC := times_yes n hn base_red.lt base_on
  have PC := pack_on (times_on base_on n)
  rw [bv_lb] at PC
  have e : (Pt.base.times n).pack = basP n := rfl
  rw [e] at PC
  clear hn e
  generalize basP n = k at *
  generalize Pt.base.times n = q at *
  generalize Pt.base = q0 at *
  refine fn_ret (N := _) Tryd.func44 rfl Tryd.ntmps44 Tryd.results44 (by simp) ?_
  simp only [initS, Nat.reduceAdd, Nat.zero_add]
  repeat' (first | (refine wlR ?_) | (refine wlB ?_) | ((with_reducible refine sel_call ?_); refine wl_rd rfl rfl (rd_call rfl rfl rfl (fun w hm => by with_reducible first | exact BC w | exact TC w | exact PC w)) ?_) | (refine wlE ?_) | (refine efR ?_) | (refine efZCnn ?_; intro n hn) | (refine efBnn ?_; intro n hn) | (refine efB ?_) | (refine wl_skip rfl rfl ?_) | (refine wdR ?_) | (refine wdV ?_) | (refine wdB ?_) | ((with_reducible refine seld_call ?_); refine wd_rd hm0 rfl rfl rfl rfl (rd_call rfl rfl rfl (fun w hm => by with_reducible first | exact BC w | exact TC w | exact PC w)) ?_) | (refine wdE ?_) | (refine wd_allocC hm0 rfl rfl rfl ?_; intro n hn hn0) | (refine wd_alloc hm0 rfl rfl rfl ?_; intro n hn hn0) | (refine wdT ?_) | (refine wd_skip rfl rfl ?_) | ((with_reducible refine seld_nil ?_); refine wd_nil hm0 ?_; clear hm0 hw0) | ((with_reducible refine wc_seq ?_); intro K hK) | (refine auC ?_) | (refine wc_cond rfl (fun hc => ?_) (fun hc => ?_)) | (refine wc_draw (by kernel_rfl) (by kernel_rfl) (by decide +kernel) ?_; intro w0 hw0 hm0; (try simp only [List.append_eq, List.cons_append, List.nil_append])) | (refine auP ?_) | ((refine auR ?_); clear hK K) | (refine auR ?_) | ((with_reducible refine hK _ _ ?_); clear hK K) | fail)
  first | refine end_ret (ResP.cell rfl ld_whole ResP.nil) ?_ | refine end_normal (ResP.cell rfl ld_whole ResP.nil) ?_
  first | rfl | (show _ = _; rfl) | (simp only [tupV, *]; done)
set_option maxHeartbeats 8000000 in
theorem new_s (w : World) (hT : Tab w) (w' : World) (hb : Below w.heap.size w w') (seed : Nat) (hs : seed < T256) :
    Calls Tryd.prog 14 [.agg (bys (lb seed))].toArray w' (Ret (.agg (rwA (sgP (secS seed) (mskS seed) (lb (pubS seed))))) w') := by
  have D1 : ∀ {v : Value} w'', Below w'.heap.size w' w'' → Cb w'' v 32 (lb seed) → Calls Tryd.prog 40 [.int .u8 1, v].toArray w'' (Ret (nu (dgN 1 (lb seed))) w'') := fun w'' h1 h2 => dgn_c w' (hT.below hb) w'' h1 1 (by decide) h2
  have AC := atl_c (dgN 1 (lb seed)) (dgN_lt _ _)
  have e0 : atl (dgN 1 (lb seed)) = secS seed := rfl
  rw [e0] at AC
  have NW := new_c
  have WG := write_g w' (hT.below hb)
  have SG := sum_g w' (hT.below hb)
  have BC := bas_c (secS seed) (secS_lt _)
  have e1 : basP (secS seed) = pubS seed := rfl
  rw [e1] at BC
  have e2 : mskS seed = ((newH.write [2]).write (lb seed)).sum := rfl
  rw [e2]
  clear hT hb hs e0 e1 e2
  generalize dgN 1 (lb seed) = d at *
  generalize secS seed = a at *
  generalize pubS seed = k at *
  refine fn_ret (N := _) Tryd.func14 rfl Tryd.ntmps14 Tryd.results14 (by simp) ?_
  simp only [initS, Nat.reduceAdd, Nat.zero_add]
  repeat' (first | (refine wlS ?_) | (refine wlG ?_) | (refine wlB ?_) | ((with_reducible refine sel_call ?_); refine wl_rd rfl rfl (rd_call rfl rfl rfl (fun w hm => by with_reducible first | exact D1 w (hm.below rfl) (VwB.out w hm) | exact AC w | exact NW w | exact BC w | exact WG w (hm.below rfl) (VwB.out w hm) | exact SG w (hm.below rfl))) ?_) | (refine wlE ?_) | (refine efSvvp ?_; intro v hv hp) | (refine efSvao ?_; intro v oa ho) | (refine efG ?_) | (refine efGnn ?_; intro n hn) | (refine efZCnn ?_; intro n hn) | (refine efBnn ?_; intro n hn) | (refine efB ?_) | (refine efBS ?_) | (refine wl_skip rfl rfl ?_) | ((with_reducible refine wc_seq ?_); intro K hK) | (refine auC ?_) | (refine wc_cond rfl (fun hc => ?_) (fun hc => ?_)) | ((with_reducible refine wc_drawT (by kernel_rfl) ?_); (try simp only [List.append_eq, List.cons_append, List.nil_append, List.length_cons, List.length_nil, Nat.reduceAdd])) | ((with_reducible refine sel_wh ?_); first | (refine wh_take (lq := []) rfl rfl rfl rfl (by first | exact rvS | exact rvG | exact rvB | exact rvE) (Or.inl rfl) ?_) | (refine wh_take rfl rfl rfl rfl (by first | exact rvS | exact rvG | exact rvB | exact rvE) (Or.inr ⟨rfl, by decide +kernel⟩) ?_)) | (refine whS ?_; intro v hv hp) | ((with_reducible refine sel_wh ?_); first | (refine wh_pass rfl rfl rfl rfl ?_) | (refine wh_done rfl ?_) | (refine wh_all rfl ?_)) | ((with_reducible refine sel_rest ?_); first | exact rest_nil rfl | refine rest_cons rfl rfl ?_ ?_) | ((with_reducible refine sel_nx ?_); first | refine next_of ?_ | refine next_late (by decide +kernel) ?_) | (refine auP ?_) | ((refine auR ?_); clear hK K) | (refine auR ?_) | ((with_reducible refine hK _ _ ?_); clear hK K) | fail)
  all_goals (first | refine end_ret (ResP.cell rfl ld_wholeG ResP.nil) ?_ | refine end_normal (ResP.cell rfl ld_wholeG ResP.nil) ?_)
  all_goals (first | rfl | (show _ = _; rfl) | (simp only [tupV, *]; done))
set_option maxHeartbeats 8000000 in
theorem chal_c (w : World) (hT : Tab w) (w' : World) (hb : Below w.heap.size w w') (r k : Nat) {v : Value} {n : Nat} {p : List Nat} (hq : Cb w' v n p) (hn : n ≤ 1048576) :
    Calls Tryd.prog 46 [.agg (bys (lb r)), .agg (bys (lb k)), v].toArray w' (Ret (nu (chal r k p)) w') := by
  have DC : ∀ {u : Value} w'', Below w'.heap.size w' w'' → Cb w'' u (32 + 32 + n) (lb r ++ lb k ++ p) → Calls Tryd.prog 40 [.int .u8 4, u].toArray w'' (Ret (nu (chal r k p)) w'') := fun w'' h1 h2 => dgn_c w' (hT.below hb) w'' h1 4 (by decide) h2
  have i1 := hq.old
  haveI : ByL p := ⟨hq.ok.by'⟩
  clear hT hb hq
  generalize chal r k p = R at *
  refine fn_ret (N := _) Tryd.func46 rfl Tryd.ntmps46 Tryd.results46 (by simp) ?_
  simp only [initS, Nat.reduceAdd, Nat.zero_add]
  repeat' (first | (refine wlS ?_) | (refine wlB ?_) | ((with_reducible refine sel_call ?_); refine wl_rd rfl rfl (rd_call rfl rfl rfl (fun w hm => by with_reducible exact DC w (hm.below rfl) (VwB.out w hm))) ?_) | (refine wlE ?_) | (refine efSvvp ?_; intro v hv hp) | (refine efSvao ?_; intro v oa ho) | (refine efAFvao ?_; intro v oa ho) | (refine efZCnn ?_; intro n hn) | (refine efBnn ?_; intro n hn) | (refine efB ?_) | (refine efBS ?_) | (refine wl_skip rfl rfl ?_) | ((with_reducible refine wc_seq ?_); intro K hK) | (refine auC ?_) | (refine wc_cond rfl (fun hc => ?_) (fun hc => ?_)) | ((with_reducible refine wc_drawT (by kernel_rfl) ?_); (try simp only [List.append_eq, List.cons_append, List.nil_append, List.length_cons, List.length_nil, Nat.reduceAdd])) | ((with_reducible refine sel_wh ?_); first | (refine wh_take (lq := []) rfl rfl rfl rfl (by first | exact rvS | exact rvB | exact rvE) (Or.inl rfl) ?_) | (refine wh_take rfl rfl rfl rfl (by first | exact rvS | exact rvB | exact rvE) (Or.inr ⟨rfl, by decide +kernel⟩) ?_)) | (refine whS ?_; intro v hv hp) | ((with_reducible refine sel_wh ?_); first | (refine wh_pass rfl rfl rfl rfl ?_) | (refine wh_done rfl ?_) | (refine wh_all rfl ?_)) | ((with_reducible refine sel_rest ?_); first | exact rest_nil rfl | refine rest_cons rfl rfl ?_ ?_) | ((with_reducible refine sel_nx ?_); first | refine next_of ?_ | refine next_late (by decide +kernel) ?_) | (refine auP ?_) | ((refine auR ?_); clear hK K) | (refine auR ?_) | ((with_reducible refine hK _ _ ?_); clear hK K) | fail)
  all_goals (first | refine end_ret (ResP.cell rfl ld_whole ResP.nil) ?_ | refine end_normal (ResP.cell rfl ld_whole ResP.nil) ?_)
  all_goals (first | rfl | (show _ = _; rfl) | (simp only [tupV, *]; done))
end Go.Proofs.YtkbgkobbadjpnaaDoor
