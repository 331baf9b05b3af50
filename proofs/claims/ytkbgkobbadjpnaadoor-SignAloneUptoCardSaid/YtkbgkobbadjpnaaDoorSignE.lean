/- The package sign, walked: Batch of one text whose signature says nothing. -/
import Derived.Test.YtkbgkobbadjpnaaDoorSignB
namespace Go.Proofs.YtkbgkobbadjpnaaDoor
open Go.RowKit
theorem rwA_list (g : Sg) : (rwA g).toList = rwL g := rfl
attribute [local irreducible] rwA bys iw
set_option linter.unusedVariables false
set_option linter.unusedSimpArgs false
set_option maxRecDepth 100000
set_option maxHeartbeats 8000000 in
theorem batch_err (w : World) {v u : Value} {k n m : Nat} {p sig : List Nat} {tv sv : Value} (hq : Cb w tv n p) (hs : Cb w sv m sig) (hv : Cs w v 1 (rwL (sgG k tv sv))) {ys : List Value} (hu : Cs w u 1 ys) (z : Int) (hz : (z != 0) = true)
    (hcl : ∀ w'', Cb w'' tv n p → Cb w'' sv m sig → Calls Tryd.prog 37 [.agg (bys (lb k)), tv, sv].toArray w'' (Ret (.tuple #[nu 0, pv ⟨0, 0⟩, .int .i64 z]) w'')) :
    Calls Tryd.prog 26 [v, u].toArray w (Ret (.int .i64 z) w) := by
  have i1 := hv.old
  have i2 := hu.old
  have j1 := hq.old
  have j2 := hs.old
  haveI o1 : One tv := ⟨hq.oneC⟩
  haveI o2 : One sv := ⟨hs.oneC⟩
  have okT : Ln tv n := hq.cs.ln
  have okS : Ln sv m := hs.cs.ln
  have hgl : (rwL (sgG k tv sv)).length = 34 := rwL_len (sgG_ok hq.oneC hs.oneC)
  have hget : ((rwL (sgG k tv sv)).drop 0).take 34 = rwL (sgG k tv sv) := by rw [List.drop_zero, List.take_of_length_le (by rw [hgl]; exact Nat.le_refl _)]
  have hgc : (rwL (sgG k tv sv)).length = 34 ∧ rwL (sgG k tv sv) ≠ [] := ⟨hgl, fun h => by rw [h] at hgl; simp at hgl⟩
  clear hgl
  have ZP := zero_c
  clear hv hu hq hs
  refine fn_ret (N := _) Tryd.func26 rfl Tryd.ntmps26 Tryd.results26 (by simp) ?_
  simp only [initS, Nat.reduceAdd, Nat.zero_add]
  repeat' (first | (refine wlS ?_) | (refine wlR ?_) | (refine wlB ?_) | (refine wlNB ?_) | ((with_reducible refine sel_call ?_); refine wl_rd rfl rfl (rd_call rfl rfl rfl (fun w hm => by with_reducible exact ZP w)) ?_) | (refine wlNL ?_) | (refine wlE ?_) | (refine efSvao ?_; intro v oa ho) | (refine efR ?_) | (refine efZCnn ?_; intro n hn) | (refine efBnn ?_; intro n hn) | (refine efB ?_) | (refine efBS ?_) | (refine wl_skip rfl rfl ?_) | (refine wdS ?_) | (refine wdR ?_) | (refine wdV ?_) | (refine wdB ?_) | ((with_reducible refine seld_call ?_); refine wd_rd hm0 rfl rfl rfl rfl (rd_call rfl rfl rfl (fun w hm => by with_reducible exact ZP w)) ?_) | (refine wdE ?_) | (refine wd_allocC hm0 rfl rfl rfl ?_; intro n hn hn0) | (refine wd_alloc hm0 rfl rfl rfl ?_; intro n hn hn0) | (refine wdT ?_) | (refine wdTO ?_) | (refine wd_skip rfl rfl ?_) | ((with_reducible refine seld_nil ?_); refine wd_nil hm0 ?_; clear hm0 hw0) | ((with_reducible refine wc_seq ?_); intro K hK) | (refine auC ?_) | (refine wc_cond rfl (fun hc => ?_) (fun hc => ?_)) | (refine wc_draw (by kernel_rfl) (by kernel_rfl) (by decide +kernel) ?_; intro w0 hw0 hm0; (try simp only [List.append_eq, List.cons_append, List.nil_append])) | (refine auP ?_) | ((refine auR ?_); clear hK K) | (refine auR ?_) | ((with_reducible refine hK _ _ ?_); clear hK K) | fail)
  refine wc_loop (σ := Unit) (fun _ => [(24, v), (25, .int .i64 (((1 : Nat) : Int))), (26, .int .i64 0)])
    (fun _ => []) (fun _ => True) (fun _ => 0) () trivial (Fits.of ⟨rfl, rfl, rfl, trivial⟩ .nil rfl) ?_
  intro _ _
  have u1 : decide ((0 : Int) < ((1 : Nat) : Int)) = true := rfl
  have l1 : (0 : Int) < ((1 : Nat) : Int) := by decide
  repeat' (first | (refine wlS ?_) | (refine wlG ?_) | (refine wlR ?_) | (refine wlB ?_) | (refine wlNB ?_) | ((with_reducible refine sel_load ?_); refine wv rfl rfl (rd_load rfl rfl ld_ORg) ?_) | ((with_reducible refine sel_call ?_); refine wl_rd rfl rfl (rd_call rfl rfl rfl (fun w hm => by with_reducible exact hcl w (VwB.out w hm) (VwB.out w hm))) ?_) | (refine wlE ?_) | (refine efSvao ?_; intro v oa ho) | (refine efG ?_) | (refine efGnn ?_; intro n hn) | (refine efR ?_) | (refine efZCnn ?_; intro n hn) | (refine efBnn ?_; intro n hn) | (refine efB ?_) | (refine efBS ?_) | (refine wl_skip rfl rfl ?_) | (refine wdS ?_) | (refine wdG ?_) | (refine wdR ?_) | (refine wdV ?_) | (refine wdB ?_) | ((with_reducible refine seld_load ?_); refine wdv hm0 rfl rfl rfl rfl (rd_load rfl rfl ld_ORg) ?_) | ((with_reducible refine seld_call ?_); refine wd_rd hm0 rfl rfl rfl rfl (rd_call rfl rfl rfl (fun w hm => by with_reducible exact hcl w (VwB.out w hm) (VwB.out w hm))) ?_) | (refine wdE ?_) | (refine wd_allocC hm0 rfl rfl rfl ?_; intro n hn hn0) | (refine wd_alloc hm0 rfl rfl rfl ?_; intro n hn hn0) | (refine wdT ?_) | (refine wdTO ?_) | (refine wd_skip rfl rfl ?_) | ((with_reducible refine seld_nil ?_); refine wd_nil hm0 ?_; clear hm0 hw0) | ((with_reducible refine wc_seq ?_); intro K hK) | (refine auC ?_) | (refine wc_cond rfl (fun hc => ?_) (fun hc => ?_)) | (refine wc_draw (by kernel_rfl) (by kernel_rfl) (by decide +kernel) ?_; intro w0 hw0 hm0; (try simp only [List.append_eq, List.cons_append, List.nil_append])) | (refine auP ?_) | ((refine auR ?_); clear hK K) | (refine auR ?_) | ((with_reducible refine hK _ _ ?_); clear hK K) | fail)
  first | refine end_ret (ResP.tmp rfl ResP.nil) ?_ | refine end_normal (ResP.tmp rfl ResP.nil) ?_
  first | rfl | (show _ = _; rfl) | (simp only [tupV, *]; done)
set_option maxHeartbeats 2000000 in
/-- A text and its signature alone: what Verify says and what Batch says. -/
theorem alone_E (w : World) (hT : Tab w) (k : Nat) (hk : k < T256) {v u : Value} {n m : Nat} {p sig : List Nat} (hq : Cb w v n p) (hn : n ≤ 1048576) (hs : Cb w u m sig) :
    ∃ z : Int, (∀ w'', Below w.heap.size w w'' → Cb w'' v n p → Cb w'' u m sig → Calls Tryd.prog 13 [.agg (bys (lb k)), v, u].toArray w'' (Ret (.int .i64 z) w'')) ∧
      (∀ {a b : Value} w'', Below w.heap.size w w'' → Cb w'' v n p → Cb w'' u m sig → Cs w'' a 1 (rwA (sgG k v u)).toList → Cs w'' b 1 (numC 1).toList → Calls Tryd.prog 26 [a, b].toArray w'' (Ret (.int .i64 z) w'')) := by
  by_cases hm : m = 64
  · subst hm
    have hsl := hs.ok.len
    have hlt := hs.ok.by'
    obtain ⟨f, hf, hfe⟩ := lb_of (d := sig.take 32) ⟨by rw [List.length_take]; omega, fun y hy => hlt y (List.mem_of_mem_take hy)⟩
    obtain ⟨s, hsT, hse⟩ := lb_of (d := sig.drop 32) ⟨by rw [List.length_drop]; omega, fun y hy => hlt y (List.mem_of_mem_drop hy)⟩
    obtain rfl : sig = lb f ++ lb s := by rw [← hfe, ← hse, List.take_append_drop]
    clear hfe hse hsl hlt
    refine ⟨verI k f s p, fun w'' h1 h2 h3 => ver_c w hT w'' h1 k f s hk hf hsT h2 hn h3, fun {a b} w'' h1 h2 h3 ha hb => ?_⟩
    by_cases hok : clOk k f s
    · have hq' : SgnsAt w'' a [⟨k, f, s, v, n, p, u⟩] := ⟨⟨[⟨(k, v, u), h2.oneC, h3.oneC⟩], rfl, by simpa [recs, sgE, rwA_list] using ha⟩, fun e he => by
        obtain rfl : e = ⟨k, f, s, v, n, p, u⟩ := by simpa using he
        exact ⟨hk, hf, hsT, hok, hn, h2, h3⟩⟩
      have e1 : bsum [s] [1] 1 = s := by
        show sadd 0 (smul 1 s) = s
        rw [sadd_def, smul_def, Nat.one_mul, Nat.zero_add, Nat.mod_mod, Nat.mod_eq_of_lt hok.2.2]
      have on1 := tP_on (s := s) hk hf hok p
      have e2 : ball [tP k f p] [1] 1 = tP k f p := by
        show Pt.zero.add ((tP k f p).times 1) = _
        rw [pt_times_one on1, pt_comm zero_on on1, pt_zero on1]
      have hw1 : ∀ y ∈ [1], y < T256 := fun y hy => by
        rw [List.mem_singleton.1 hy]; decide
      have hb1 : Cs w'' b [1].length (recs numE [1]) := by simpa [recs, numE] using hb
      refine batch_c w'' (hT.below h1) hq' hb1 hw1 rfl (by show 1 ≤ 20; decide) ?_
      show (Pt.base.times (bsum [s] [1] 1) = ball [tP k f p] [1] 1 ∧ _) ∨ _
      rw [e1, e2]
      by_cases he : Pt.base.times s = tP k f p
      · exact .inl ⟨he, verI_zero.2 ⟨hok, he⟩⟩
      · refine .inr ⟨?_, verI_five hok he⟩
        show ¬ Pt.base.times (bsum [s] [1] 1) = ball [tP k f p] [1] 1
        rw [e1, e2]; exact he
    · rw [verI_four hok]
      exact batch_err w'' h2 h3 (by rw [← rwA_list]; exact ha) hb 4 rfl fun w3 _ h => claim_bad w3 k f s hk hf hsT hok h
  · refine ⟨1, fun w'' _ _ h3 => ver_len w'' k h3 hm, fun {a b} w'' h1 h2 h3 ha hb => ?_⟩
    exact batch_err w'' h2 h3 (by rw [← rwA_list]; exact ha) hb 1 rfl fun w3 _ h => claim_len w3 k h hm
theorem batch_nil (w : World) (hT : Tab w) : Calls Tryd.prog 26 [.slice none 0 0, .slice none 0 0].toArray w (Ret (.int .i64 0) w) := by
  have h0 : Cs w (.slice none 0 0) 0 [] := (CsF.out (Φ := Hd []) w (by intro p hp; cases hp))
  refine batch_c w hT (es := []) (ws := []) ⟨⟨[], rfl, h0⟩, fun e he => by cases he⟩ h0 (fun y hy => by cases hy) rfl (by decide) (.inl ⟨?_, rfl⟩)
  exact pt_times_zero base_on
end Go.Proofs.YtkbgkobbadjpnaaDoor
