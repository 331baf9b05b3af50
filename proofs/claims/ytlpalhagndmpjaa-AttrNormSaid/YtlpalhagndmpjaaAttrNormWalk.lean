/- AttrNorm: the walk. -/
import Derived.Test.YtlpalhagndmpjaaJnAB
namespace Go.Proofs.Ytlpalhagndmpjaa.AttrNormWalk
open Go.RowKit
set_option linter.unusedVariables false
set_option linter.unusedSimpArgs false
set_option maxRecDepth 100000 in
set_option maxHeartbeats 8000000 in
theorem walk (w : World) {v : Value} {l : List Att} (h : Ats w v l) : Calls Try.prog 3 [v].toArray w (Ret (.bool true) w) := by
  haveI i0 := h.old
  haveI i1 := h.cs.old
  obtain ⟨e, he⟩ : ∃ e, e = chkA (abs l) := ⟨_, rfl⟩
  by_cases h0 : e ≠ 0
  · have NE := fun w' (h : Ats w' v l) => norm_err w' h he.symm h0
    have CK := fun w' (h : Ats w' v l) => (show Calls Try.prog 13 [v].toArray w' (Ret (.int .i64 e) w') by rw [he]; exact check_a w' h)
    have t1 : (e != 0) = true := by simpa using h0
    have t2 : (((0 : Nat) : Int) == 0) = true := rfl
    have t3 : (e == e) = true := by simp
    clear h he
    refine fn_ret (N := _) Try.func3 rfl Try.ntmps3 Try.results3 (by simp) ?_
    simp only [initS, Nat.reduceAdd, Nat.zero_add]
    repeat' (first | (refine wlS ?_) | (refine wlB ?_) | ((with_reducible refine sel_call ?_); refine wl_rd rfl rfl (rd_call rfl rfl rfl (fun w hm => by with_reducible first | exact NE w (VwT.out w hm) | exact CK w (VwT.out w hm))) ?_) | (refine wlE ?_) | (refine efSvao ?_; intro v oa ho) | (refine wl_skip rfl rfl ?_) | (refine wdS ?_) | (refine wdV ?_) | (refine wdB ?_) | (refine wd_skip rfl rfl ?_) | ((with_reducible refine seld_nil ?_); refine wd_nil hm0 ?_; clear hm0 hw0) | ((with_reducible refine wc_seq ?_); intro K hK) | (refine auC ?_) | (refine wc_cond rfl (fun hc => ?_) (fun hc => ?_)) | (refine wc_draw (by kernel_rfl) (by kernel_rfl) (by decide +kernel) ?_; intro w0 hw0 hm0; (try simp only [List.append_eq, List.cons_append, List.nil_append])) | (refine auP ?_) | ((refine auR ?_); clear hK K) | (refine auR ?_) | ((with_reducible refine hK _ _ ?_); clear hK K) | fail)
    first | refine end_ret (ResP.tmp rfl ResP.nil) ?_ | refine end_normal (ResP.tmp rfl ResP.nil) ?_
    first | rfl | (show _ = _; rfl) | (simp only [tupV, *]; done)
  have h0' : chkA (abs l) = 0 := by rw [← he]; exact Decidable.of_not_not h0
  have hk := chkA_zero.1 h0'
  have NO := fun w' (h : Ats w' v l) => norm_ok w' h hk
  have CK := fun w' (h : Ats w' v l) => (show Calls Try.prog 13 [v].toArray w' (Ret (.int .i64 0) w') by rw [← h0']; exact check_a w' h)
  have t0 : ((0 : Int) != 0) = false := rfl
  have t00 : ((0 : Int) == 0) = true := rfl
  have hll : l.length ≤ 24 := by have := hk.len; rwa [abs_len] at this
  clear h he h0 h0'
  refine fn_ret (N := _) Try.func3 rfl Try.ntmps3 Try.results3 (by simp) ?_
  simp only [initS, Nat.reduceAdd, Nat.zero_add]
  repeat' (first | (refine wlS ?_) | (refine wlB ?_) | (refine wlE ?_) | (refine efSvao ?_; intro v oa ho) | ((with_reducible refine sel_call ?_); first | (refine wl_newO rfl rfl rfl rfl rfl (fun w hm => by with_reducible exact NO w (VwT.out w hm)) ?_; intro x oa hx)) | (refine wl_skip rfl rfl ?_) | (refine wdS ?_) | (refine wdV ?_) | (refine wdB ?_) | (refine wd_skip rfl rfl ?_) | ((with_reducible refine seld_nil ?_); refine wd_nil hm0 ?_; clear hm0 hw0) | ((with_reducible refine wc_seq ?_); intro K hK) | (refine auC ?_) | (refine wc_cond rfl (fun hc => ?_) (fun hc => ?_)) | (refine wc_draw (by kernel_rfl) (by kernel_rfl) (by decide +kernel) ?_; intro w0 hw0 hm0; (try simp only [List.append_eq, List.cons_append, List.nil_append])) | (refine auP ?_) | ((refine auR ?_); clear hK K) | (refine auR ?_) | ((with_reducible refine hK _ _ ?_); clear hK K) | fail)
  obtain ⟨u, rfl⟩ : ∃ u, u = x := ⟨x, rfl⟩
  obtain ⟨its, hot, hnm⟩ := hx
  haveI hA := hot.atf
  haveI := hA.cs
  have hil : its.length = l.length := by have := hnm.perm.length_eq; rwa [abs_len, abs_len] at this
  repeat' (first | (refine wlS ?_) | (refine wlB ?_) | (refine wlE ?_) | (refine efSvao ?_; intro v oa ho) | (refine wl_skip rfl rfl ?_) | (refine wdS ?_) | (refine wdV ?_) | (refine wdB ?_) | (refine wd_skip rfl rfl ?_) | ((with_reducible refine seld_nil ?_); refine wd_nil hm0 ?_; clear hm0 hw0) | ((with_reducible refine wc_seq ?_); intro K hK) | (refine auC ?_) | (refine wc_cond rfl (fun hc => ?_) (fun hc => ?_)) | (refine wc_draw (by kernel_rfl) (by kernel_rfl) (by decide +kernel) ?_; intro w0 hw0 hm0; (try simp only [List.append_eq, List.cons_append, List.nil_append])) | (refine auP ?_) | ((refine auR ?_); clear hK K) | (refine auR ?_) | ((with_reducible refine hK _ _ ?_); clear hK K) | fail)
  refine wc_loop (σ := Nat) (fun i => [(0, v), (3, u), (5, .int .i64 (i : Int))]) (fun _ => oa) (fun i => 1 ≤ i ∧ i ≤ l.length + 1) (fun i => l.length + 1 - i) 1 ⟨Nat.le_refl _, by omega⟩ (Fits.of ⟨rfl, rfl, rfl, trivial⟩ (SubL.refl _) rfl) ?_
  rintro i ⟨hi1, hi⟩
  by_cases hlt : i < l.length
  · have u1 : decide ((i : Int) < (its.length : Int)) = true := decide_eq_true (by omega)
    have u2 : IntKind.i64.wrap ((i : Int) + 1) = ((i + 1 : Nat) : Int) := by rw [wrap_i64 _ (by omega) (by omega)]; omega
    have u3 : IntKind.i64.wrap ((i : Int) - 1) = ((i - 1 : Nat) : Int) := by rw [wrap_i64 _ (by omega) (by omega)]; omega
    obtain ⟨⟨k, bv, p⟩, hx1⟩ : ∃ x, its[i - 1]? = some x := ⟨its[i - 1]'(by omega), List.getElem?_eq_getElem _⟩
    obtain ⟨⟨m, bw, q⟩, hx2⟩ : ∃ x, its[i]? = some x := ⟨its[i]'(by omega), List.getElem?_eq_getElem _⟩
    have g1 := atsC_kind hx1
    have g2 := atsC_kind hx2
    have hlt2 : k < m := by
      have h1 := abs_get hx1
      have h2 := abs_get hx2
      have := List.pairwise_iff_getElem.1 hnm.rises (i - 1) i (List.getElem?_eq_some_iff.1 h1).1 (List.getElem?_eq_some_iff.1 h2).1 (by omega)
      rw [(List.getElem?_eq_some_iff.1 h1).2, (List.getElem?_eq_some_iff.1 h2).2] at this
      exact this
    have u4 : decide (k ≥ m) = false := decide_eq_false (by omega)
    have j1 : (i : Int) < (its.length : Int) := by omega
    have j2 : ((i - 1 : Nat) : Int) < (its.length : Int) := by omega
    dsimp only at g1 g2
    clear NO CK
    repeat' (first | (refine wlS ?_) | (refine wlB ?_) | (refine wlE ?_) | (refine efSvao ?_; intro v oa ho) | (refine wl_skip rfl rfl ?_) | (refine wdS ?_) | (refine wdV ?_) | (refine wdB ?_) | (refine wd_skip rfl rfl ?_) | ((with_reducible refine seld_nil ?_); refine wd_nil hm0 ?_; clear hm0 hw0) | ((with_reducible refine wc_seq ?_); intro K hK) | (refine auC ?_) | (refine wc_cond rfl (fun hc => ?_) (fun hc => ?_)) | (refine wc_draw (by kernel_rfl) (by kernel_rfl) (by decide +kernel) ?_; intro w0 hw0 hm0; (try simp only [List.append_eq, List.cons_append, List.nil_append])) | (refine auP ?_) | ((refine auR ?_); clear hK K) | (refine auR ?_) | ((with_reducible refine hK _ _ ?_); clear hK K) | fail)
    exact ⟨i + 1, ⟨by omega, by omega⟩, by omega, Fits.of ⟨rfl, rfl, rfl, trivial⟩ (SubL.refl _) rfl⟩
  · have u1 : decide ((i : Int) < (its.length : Int)) = false := decide_eq_false (by omega)
    obtain ⟨hm1, hm2⟩ := match_perm hk.nd hnm.perm
    rw [← match_abs] at hm1 hm2
    have NI := fun w' (h : Ats w' u its) => norm_ok w' h (norm_okA hk hnm)
    have M1 := fun w' (h : Ats w' v l) (h' : Ats w' u its) => (show Calls Try.prog 15 [v, u].toArray w' (Ret (.bool true) w') by rw [← hm1]; exact match_c w' h h')
    have M2 := fun w' (h : Ats w' u its) (h' : Ats w' v l) => (show Calls Try.prog 15 [u, v].toArray w' (Ret (.bool true) w') by rw [← hm2]; exact match_c w' h h')
    have t5 : ((its.length : Int) == (l.length : Int)) = true := by simp [hil]
    clear NO
    repeat' (first | (refine wlS ?_) | (refine wlB ?_) | (refine wlE ?_) | (refine efSvao ?_; intro v oa ho) | ((with_reducible refine sel_call ?_); first | (refine wl_newO rfl rfl rfl rfl rfl (fun w hm => by with_reducible exact NI w (VwT.out w hm)) ?_; intro x oa hx)) | (refine wl_skip rfl rfl ?_) | (refine wdS ?_) | (refine wdV ?_) | (refine wdB ?_) | (refine wd_skip rfl rfl ?_) | ((with_reducible refine seld_nil ?_); refine wd_nil hm0 ?_; clear hm0 hw0) | ((with_reducible refine wc_seq ?_); intro K hK) | (refine auC ?_) | (refine wc_cond rfl (fun hc => ?_) (fun hc => ?_)) | (refine wc_draw (by kernel_rfl) (by kernel_rfl) (by decide +kernel) ?_; intro w0 hw0 hm0; (try simp only [List.append_eq, List.cons_append, List.nil_append])) | (refine auP ?_) | ((refine auR ?_); clear hK K) | (refine auR ?_) | ((with_reducible refine hK _ _ ?_); clear hK K) | fail)
    obtain ⟨js, hoj, hnj⟩ := hx
    haveI hB := hoj.atf
    haveI := hB.cs
    have SA := fun w' (h : Ats w' u its) {v' : Value} (h' : Ats w' v' js) => sameA_c w' h h' (r := true) (by rw [show abs its = abs js from IsNorm.only ⟨hnm.rises, .refl _⟩ hnj]; simp)
    repeat' (first | (refine wlS ?_) | (refine wlB ?_) | ((with_reducible refine sel_call ?_); refine wl_rd rfl rfl (rd_call rfl rfl rfl (fun w hm => by with_reducible first | exact SA w (VwT.out w hm) (VwT.out w hm) | exact M1 w (VwT.out w hm) (VwT.out w hm) | exact M2 w (VwT.out w hm) (VwT.out w hm) | exact CK w (VwT.out w hm))) ?_) | (refine wlE ?_) | (refine efSvao ?_; intro v oa ho) | (refine wl_skip rfl rfl ?_) | (refine wdS ?_) | (refine wdV ?_) | (refine wdB ?_) | (refine wd_skip rfl rfl ?_) | ((with_reducible refine seld_nil ?_); refine wd_nil hm0 ?_; clear hm0 hw0) | ((with_reducible refine wc_seq ?_); intro K hK) | (refine auC ?_) | (refine wc_cond rfl (fun hc => ?_) (fun hc => ?_)) | (refine wc_draw (by kernel_rfl) (by kernel_rfl) (by decide +kernel) ?_; intro w0 hw0 hm0; (try simp only [List.append_eq, List.cons_append, List.nil_append])) | (refine auP ?_) | ((refine auR ?_); clear hK K) | (refine auR ?_) | ((with_reducible refine hK _ _ ?_); clear hK K) | fail)
    first | refine end_ret (ResP.tmp rfl ResP.nil) ?_ | refine end_normal (ResP.tmp rfl ResP.nil) ?_
    first | rfl | (show _ = _; rfl) | (simp only [tupV, *]; done)
end Go.Proofs.Ytlpalhagndmpjaa.AttrNormWalk
