/- LoginIds: the walk. (Printed by wip/genlogin.py.) -/
import Derived.Test.YthljhaioblcgfaaJnAB
namespace Go.Proofs.Ythljhaioblcgfaa.LoginIdsWalk
open Go.RowKit
set_option linter.unusedVariables false
set_option linter.unusedSimpArgs false
set_option maxRecDepth 100000 in
set_option maxHeartbeats 8000000 in
theorem walk (w : World) (most : Int) (hm : (Lit.int .i64 most).wf = true) {v : Value} {l : List Sit} (hl : Sits w v l) : Calls Try.prog 6 [.int .i64 most, v].toArray w (Ret (.bool true) w) := by
  haveI i0 := hl.old
  by_cases hbad : most < 1 ∨ 16 < most
  · have NW := fun w' => new_bad w' hbad hm
    have t1 : ((1 : Int) != 0) = true := rfl
    have t2 : ((1 : Int) == 0) = false := rfl
    clear hbad
    refine fn_ret (N := _) Try.func6 rfl Try.ntmps6 Try.results6 (by simp) ?_
    simp only [initS, Nat.reduceAdd, Nat.zero_add]
    repeat' (first | (refine wlS ?_) | (refine wlB ?_) | ((with_reducible refine sel_call ?_); refine wl_rd rfl rfl (rd_call rfl rfl rfl (fun w hm => by with_reducible exact NW w)) ?_) | (refine wlPNN ?_) | (refine wlE ?_) | (refine efSvao ?_; intro v oa ho) | (refine efBnn ?_; intro n hn) | (refine efB ?_) | (refine efBS ?_) | (refine wl_skip rfl rfl ?_) | ((with_reducible refine wc_seq ?_); intro K hK) | (refine auC ?_) | (refine wc_cond rfl (fun hc => ?_) (fun hc => ?_)) | (refine wc_draw (by kernel_rfl) (by kernel_rfl) (by decide +kernel) ?_; intro w0 hw0 hm0; (try simp only [List.append_eq, List.cons_append, List.nil_append])) | (refine auP ?_) | ((refine auR ?_); clear hK K) | (refine auR ?_) | ((with_reducible refine hK _ _ ?_); clear hK K) | fail)
    first | refine end_ret (ResP.tmp rfl ResP.nil) ?_ | refine end_normal (ResP.tmp rfl ResP.nil) ?_
    first | rfl | (show _ = _; rfl) | (simp only [tupV, *]; done)
  have NC := fun w' => new_c w' (most := most) (by omega)
  have hok0 : DkAll ⟨most, 0, 0, [], 0⟩ := dkAll_new (by omega)
  have t0 : ((0 : Int) != 0) = false := rfl
  have t00 : ((0 : Int) == 0) = true := rfl
  by_cases hbig : l.length > 60
  · have t1 : decide ((l.length : Int) > 60) = true := decide_eq_true (by omega)
    clear hbad hok0
    refine fn_ret (N := _) Try.func6 rfl Try.ntmps6 Try.results6 (by simp) ?_
    simp only [initS, Nat.reduceAdd, Nat.zero_add]
    repeat' (first | (refine wlS ?_) | (refine wlB ?_) | (refine wlPN ?_) | (refine wlE ?_) | (refine efSvao ?_; intro v oa ho) | ((with_reducible refine sel_call ?_); first | (refine wl_newO rfl rfl rfl rfl rfl (fun w hm => by with_reducible exact NC w) ?_; intro x oa hx)) | (refine efBnn ?_; intro n hn) | (refine efB ?_) | (refine efBS ?_) | (refine wl_skip rfl rfl ?_) | ((with_reducible refine wc_seq ?_); intro K hK) | (refine auC ?_) | (refine wc_cond rfl (fun hc => ?_) (fun hc => ?_)) | (refine wc_draw (by kernel_rfl) (by kernel_rfl) (by decide +kernel) ?_; intro w0 hw0 hm0; (try simp only [List.append_eq, List.cons_append, List.nil_append])) | (refine auP ?_) | ((refine auR ?_); clear hK K) | (refine auR ?_) | ((with_reducible refine hK _ _ ?_); clear hK K) | fail)
    first | refine end_ret (ResP.tmp rfl ResP.nil) ?_ | refine end_normal (ResP.tmp rfl ResP.nil) ?_
    first | rfl | (show _ = _; rfl) | (simp only [tupV, *]; done)
  have t1 : decide ((l.length : Int) > 60) = false := decide_eq_false (by omega)
  clear hbad hl hm
  refine fn_ret (N := _) Try.func6 rfl Try.ntmps6 Try.results6 (by simp) ?_
  simp only [initS, Nat.reduceAdd, Nat.zero_add]
  repeat' (first | (refine wlS ?_) | (refine wlB ?_) | (refine wlPN ?_) | (refine wlE ?_) | (refine efSvao ?_; intro v oa ho) | ((with_reducible refine sel_call ?_); first | (refine wl_newO rfl rfl rfl rfl rfl (fun w hm => by with_reducible exact NC w) ?_; intro x oa hx)) | (refine efBnn ?_; intro n hn) | (refine efB ?_) | (refine efBS ?_) | (refine wl_skip rfl rfl ?_) | ((with_reducible refine wc_seq ?_); intro K hK) | (refine auC ?_) | (refine wc_cond rfl (fun hc => ?_) (fun hc => ?_)) | (refine wc_draw (by kernel_rfl) (by kernel_rfl) (by decide +kernel) ?_; intro w0 hw0 hm0; (try simp only [List.append_eq, List.cons_append, List.nil_append])) | (refine auP ?_) | ((refine auR ?_); clear hK K) | (refine auR ?_) | ((with_reducible refine hK _ _ ?_); clear hK K) | fail)
  obtain ⟨g, nd, rfl⟩ := hx
  obtain ⟨b, rfl⟩ : ∃ b, b = x := ⟨x, rfl⟩
  clear NC
  refine wc_loop (σ := Nat × Dk) (fun x => [(1, v), (5, ptr b), (7, .int .i64 x.2.last), (37, v), (38, .int .i64 (l.length : Int)), (39, .int .i64 (x.1 : Int))]) (fun x => dkB b g x.2) (fun x => x.1 ≤ l.length ∧ DkAll x.2) (fun x => l.length - x.1) (0, ⟨most, 0, 0, [], 0⟩) ⟨Nat.zero_le _, hok0⟩ (Fits.of ⟨rfl, rfl, rfl, rfl, rfl, rfl, trivial⟩ (SubL.refl _) rfl) ?_
  rintro ⟨i, D⟩ ⟨hi, hA⟩
  dsimp only at hi hA ⊢
  have hD := hA.ok
  by_cases hlt : i < l.length
  · obtain ⟨⟨kd, sd, nn⟩, hlx⟩ : ∃ x, l[i]? = some x := ⟨l[i]'(by omega), List.getElem?_eq_getElem _⟩
    have hget : ((recs sitV l).drop (i * 3)).take 3 = [.int .i64 kd, .int .i64 sd, .int .i64 nn] := recs_get sitV hlx
    have ST := fun w' (h' : Hd (dkB b g D) w') => sit_s w' nd h' hD kd sd nn
    have u1 : decide ((i : Int) < (l.length : Int)) = true := decide_eq_true (by omega)
    have u2 : IntKind.i64.wrap ((i : Int) + 1) = ((i + 1 : Nat) : Int) := by rw [wrap_i64 _ (by omega) (by omega)]; omega
    have j1 : (i : Int) < (l.length : Int) := by omega
    have hcl : closeE D sd = 0 → stateE (closeD D sd) sd = 6 := fun he => close_gone hD he
    by_cases hk : kd = 1
    · subst hk
      have v1 : ((1 : Int) != 1) = false := rfl
      have OP := fun w' (h' : Hd (dkB b g D) w') => open_s w' nd h' hD (nn != 0)
      have hop := hA.opened (nn != 0)
      generalize hr : (nn != 0) = r at *
      by_cases he : openE D r = 0
      · have e1 : openN D r = D.last + 1 := by unfold openN; rw [if_pos he]
        have e2 : (openD D r).last = D.last + 1 := by unfold openD; rw [if_pos he]
        have v2 : IntKind.i64.wrap (D.last + 1) = D.last + 1 := wrap_i64 _ (by have := hD.last0; omega) (by have := hD.last1; omega)
        have v3 : (D.last + 1 != D.last + 1) = false := by simp
        rw [he, e1] at OP
        clear ST hcl he e1
        repeat' (first | (refine wlS ?_) | (refine wlB ?_) | (refine wlE ?_) | (refine efSvao ?_; intro v oa ho) | (refine efZCnn ?_; intro n hn) | (refine efBnn ?_; intro n hn) | (refine efB ?_) | (refine efBS ?_) | (refine wl_skip rfl rfl ?_) | ((with_reducible refine wc_seq ?_); intro K hK) | (refine auC ?_) | (refine wc_cond rfl (fun hc => ?_) (fun hc => ?_)) | (refine wc_draw (by kernel_rfl) (by kernel_rfl) (by decide +kernel) ?_; intro w0 hw0 hm0; (try simp only [List.append_eq, List.cons_append, List.nil_append])) | (refine auP ?_) | ((refine auR ?_); clear hK K) | (refine auR ?_) | ((with_reducible refine hK _ _ ?_); clear hK K) | fail)
        repeat' (first | (refine wlS ?_) | (refine wlB ?_) | (refine wlE ?_) | (refine efSvao ?_; intro v oa ho) | (refine efZCnn ?_; intro n hn) | ((with_reducible refine sel_call ?_); first | (refine wl_updO rfl rfl rfl rfl rfl (fun w hm hw => by with_reducible exact OP w hw) ?_; intro x oa hx)) | (refine efBnn ?_; intro n hn) | (refine efB ?_) | (refine efBS ?_) | (refine wl_skip rfl rfl ?_) | ((with_reducible refine wc_seq ?_); intro K hK) | (refine auC ?_) | (refine wc_cond rfl (fun hc => ?_) (fun hc => ?_)) | (refine wc_draw (by kernel_rfl) (by kernel_rfl) (by decide +kernel) ?_; intro w0 hw0 hm0; (try simp only [List.append_eq, List.cons_append, List.nil_append])) | (refine auP ?_) | ((refine auR ?_); clear hK K) | (refine auR ?_) | ((with_reducible refine hK _ _ ?_); clear hK K) | fail)
        subst hx
        repeat' (first | (refine wlS ?_) | (refine wlB ?_) | (refine wlE ?_) | (refine efSvao ?_; intro v oa ho) | (refine efBnn ?_; intro n hn) | (refine efB ?_) | (refine efBS ?_) | (refine wl_skip rfl rfl ?_) | ((with_reducible refine wc_seq ?_); intro K hK) | (refine auC ?_) | (refine wc_cond rfl (fun hc => ?_) (fun hc => ?_)) | (refine wc_draw (by kernel_rfl) (by kernel_rfl) (by decide +kernel) ?_; intro w0 hw0 hm0; (try simp only [List.append_eq, List.cons_append, List.nil_append])) | (refine auP ?_) | ((refine auR ?_); clear hK K) | (refine auR ?_) | ((with_reducible refine hK _ _ ?_); clear hK K) | fail)
        refine ⟨(i + 1, openD D r), ⟨hlt, hop⟩, by dsimp only; omega, Fits.of ⟨rfl, rfl, by rw [← e2]; rfl, rfl, rfl, rfl, trivial⟩ ?_ rfl⟩
        repeat (first | exact SubL.nil | exact SubL.refl _ | refine SubL.keep ?_ | exact SubL.headA _ _ | refine SubL.keepA ?_ _ | refine SubL.skip ?_ | refine SubL.skipA ?_ _)
      · have v2 : (openE D r == 0) = false := by simpa using he
        rw [openE_ne he] at OP hop
        clear ST hcl he
        repeat' (first | (refine wlS ?_) | (refine wlB ?_) | (refine wlE ?_) | (refine efSvao ?_; intro v oa ho) | (refine efZCnn ?_; intro n hn) | (refine efBnn ?_; intro n hn) | (refine efB ?_) | (refine efBS ?_) | (refine wl_skip rfl rfl ?_) | ((with_reducible refine wc_seq ?_); intro K hK) | (refine auC ?_) | (refine wc_cond rfl (fun hc => ?_) (fun hc => ?_)) | (refine wc_draw (by kernel_rfl) (by kernel_rfl) (by decide +kernel) ?_; intro w0 hw0 hm0; (try simp only [List.append_eq, List.cons_append, List.nil_append])) | (refine auP ?_) | ((refine auR ?_); clear hK K) | (refine auR ?_) | ((with_reducible refine hK _ _ ?_); clear hK K) | fail)
        repeat' (first | (refine wlS ?_) | (refine wlB ?_) | (refine wlE ?_) | (refine efSvao ?_; intro v oa ho) | (refine efZCnn ?_; intro n hn) | ((with_reducible refine sel_call ?_); first | (refine wl_updO rfl rfl rfl rfl rfl (fun w hm hw => by with_reducible exact OP w hw) ?_; intro x oa hx)) | (refine efBnn ?_; intro n hn) | (refine efB ?_) | (refine efBS ?_) | (refine wl_skip rfl rfl ?_) | ((with_reducible refine wc_seq ?_); intro K hK) | (refine auC ?_) | (refine wc_cond rfl (fun hc => ?_) (fun hc => ?_)) | (refine wc_draw (by kernel_rfl) (by kernel_rfl) (by decide +kernel) ?_; intro w0 hw0 hm0; (try simp only [List.append_eq, List.cons_append, List.nil_append])) | (refine auP ?_) | ((refine auR ?_); clear hK K) | (refine auR ?_) | ((with_reducible refine hK _ _ ?_); clear hK K) | fail)
        subst hx
        repeat' (first | (refine wlS ?_) | (refine wlB ?_) | (refine wlE ?_) | (refine efSvao ?_; intro v oa ho) | (refine efBnn ?_; intro n hn) | (refine efB ?_) | (refine efBS ?_) | (refine wl_skip rfl rfl ?_) | ((with_reducible refine wc_seq ?_); intro K hK) | (refine auC ?_) | (refine wc_cond rfl (fun hc => ?_) (fun hc => ?_)) | (refine wc_draw (by kernel_rfl) (by kernel_rfl) (by decide +kernel) ?_; intro w0 hw0 hm0; (try simp only [List.append_eq, List.cons_append, List.nil_append])) | (refine auP ?_) | ((refine auR ?_); clear hK K) | (refine auR ?_) | ((with_reducible refine hK _ _ ?_); clear hK K) | fail)
        refine ⟨(i + 1, D), ⟨hlt, hA⟩, by dsimp only; omega, Fits.of ⟨rfl, rfl, rfl, rfl, rfl, rfl, trivial⟩ ?_ rfl⟩
        repeat (first | exact SubL.nil | exact SubL.refl _ | refine SubL.keep ?_ | exact SubL.headA _ _ | refine SubL.keepA ?_ _ | refine SubL.skip ?_ | refine SubL.skipA ?_ _)
    · have v1 : (kd != 1) = true := by simpa using hk
      have hla := sit_last (D := D) (id := sd) (n := nn) hk
      have hsit := hA.sit kd sd nn
      by_cases he : sitE D kd sd nn = 0
      · have v2 : (sitE D kd sd nn == 0) = true := by simpa using he
        by_cases hk2 : kd = 2
        · subst hk2
          have v3 : ((2 : Int) == 2) = true := rfl
          have he2 : closeE D sd = 0 := by
            unfold sitE at he
            rw [if_neg (by decide), if_pos rfl] at he; exact he
          have hS2 : sitD D 2 sd nn = closeD D sd := by unfold sitD; rw [if_neg (by decide), if_pos rfl]
          have h6 := hcl he2
          rw [← hS2] at h6
          obtain ⟨E, hE⟩ : ∃ E, sitD D 2 sd nn = E := ⟨_, rfl⟩
          rw [hE] at ST hsit h6 hla
          have S1 := fun w' (h' : Hd (dkB b g E) w') => state_s w' nd h' hsit.ok sd
          rw [h6] at S1
          have v4 : ((6 : Int) != 6) = false := rfl
          clear hcl he he2 hS2 hE h6
          repeat' (first | (refine wlS ?_) | (refine wlB ?_) | (refine wlE ?_) | (refine efSvao ?_; intro v oa ho) | (refine efZCnn ?_; intro n hn) | ((with_reducible refine sel_call ?_); first | (refine wl_updO rfl rfl rfl rfl rfl (fun w hm hw => by with_reducible exact ST w hw) ?_; intro x oa hx)) | (refine efBnn ?_; intro n hn) | (refine efB ?_) | (refine efBS ?_) | (refine wl_skip rfl rfl ?_) | ((with_reducible refine wc_seq ?_); intro K hK) | (refine auC ?_) | (refine wc_cond rfl (fun hc => ?_) (fun hc => ?_)) | (refine wc_draw (by kernel_rfl) (by kernel_rfl) (by decide +kernel) ?_; intro w0 hw0 hm0; (try simp only [List.append_eq, List.cons_append, List.nil_append])) | (refine auP ?_) | ((refine auR ?_); clear hK K) | (refine auR ?_) | ((with_reducible refine hK _ _ ?_); clear hK K) | fail)
          subst hx
          repeat' (first | (refine wlS ?_) | (refine wlB ?_) | (refine wlE ?_) | (refine efSvao ?_; intro v oa ho) | ((with_reducible refine sel_call ?_); first | (refine wl_updO rfl rfl rfl rfl rfl (fun w hm hw => by with_reducible exact S1 w hw) ?_; intro x oa hx)) | (refine efBnn ?_; intro n hn) | (refine efB ?_) | (refine efBS ?_) | (refine wl_skip rfl rfl ?_) | ((with_reducible refine wc_seq ?_); intro K hK) | (refine auC ?_) | (refine wc_cond rfl (fun hc => ?_) (fun hc => ?_)) | (refine wc_draw (by kernel_rfl) (by kernel_rfl) (by decide +kernel) ?_; intro w0 hw0 hm0; (try simp only [List.append_eq, List.cons_append, List.nil_append])) | (refine auP ?_) | ((refine auR ?_); clear hK K) | (refine auR ?_) | ((with_reducible refine hK _ _ ?_); clear hK K) | fail)
          subst hx
          repeat' (first | (refine wlS ?_) | (refine wlB ?_) | (refine wlE ?_) | (refine efSvao ?_; intro v oa ho) | (refine efBnn ?_; intro n hn) | (refine efB ?_) | (refine efBS ?_) | (refine wl_skip rfl rfl ?_) | ((with_reducible refine wc_seq ?_); intro K hK) | (refine auC ?_) | (refine wc_cond rfl (fun hc => ?_) (fun hc => ?_)) | (refine wc_draw (by kernel_rfl) (by kernel_rfl) (by decide +kernel) ?_; intro w0 hw0 hm0; (try simp only [List.append_eq, List.cons_append, List.nil_append])) | (refine auP ?_) | ((refine auR ?_); clear hK K) | (refine auR ?_) | ((with_reducible refine hK _ _ ?_); clear hK K) | fail)
          refine ⟨(i + 1, E), ⟨hlt, hsit⟩, by dsimp only; omega, Fits.of ⟨rfl, rfl, by rw [← hla]; rfl, rfl, rfl, rfl, trivial⟩ ?_ rfl⟩
          repeat (first | exact SubL.nil | exact SubL.refl _ | refine SubL.keep ?_ | exact SubL.headA _ _ | refine SubL.keepA ?_ _ | refine SubL.skip ?_ | refine SubL.skipA ?_ _)
        · have v3 : (kd == 2) = false := by simpa using hk2
          obtain ⟨E, hE⟩ : ∃ E, sitD D kd sd nn = E := ⟨_, rfl⟩
          rw [hE] at ST hsit hla
          clear hcl he hE
          repeat' (first | (refine wlS ?_) | (refine wlB ?_) | (refine wlE ?_) | (refine efSvao ?_; intro v oa ho) | (refine efZCnn ?_; intro n hn) | ((with_reducible refine sel_call ?_); first | (refine wl_updO rfl rfl rfl rfl rfl (fun w hm hw => by with_reducible exact ST w hw) ?_; intro x oa hx)) | (refine efBnn ?_; intro n hn) | (refine efB ?_) | (refine efBS ?_) | (refine wl_skip rfl rfl ?_) | ((with_reducible refine wc_seq ?_); intro K hK) | (refine auC ?_) | (refine wc_cond rfl (fun hc => ?_) (fun hc => ?_)) | (refine wc_draw (by kernel_rfl) (by kernel_rfl) (by decide +kernel) ?_; intro w0 hw0 hm0; (try simp only [List.append_eq, List.cons_append, List.nil_append])) | (refine auP ?_) | ((refine auR ?_); clear hK K) | (refine auR ?_) | ((with_reducible refine hK _ _ ?_); clear hK K) | fail)
          subst hx
          repeat' (first | (refine wlS ?_) | (refine wlB ?_) | (refine wlE ?_) | (refine efSvao ?_; intro v oa ho) | (refine efBnn ?_; intro n hn) | (refine efB ?_) | (refine efBS ?_) | (refine wl_skip rfl rfl ?_) | ((with_reducible refine wc_seq ?_); intro K hK) | (refine auC ?_) | (refine wc_cond rfl (fun hc => ?_) (fun hc => ?_)) | (refine wc_draw (by kernel_rfl) (by kernel_rfl) (by decide +kernel) ?_; intro w0 hw0 hm0; (try simp only [List.append_eq, List.cons_append, List.nil_append])) | (refine auP ?_) | ((refine auR ?_); clear hK K) | (refine auR ?_) | ((with_reducible refine hK _ _ ?_); clear hK K) | fail)
          refine ⟨(i + 1, E), ⟨hlt, hsit⟩, by dsimp only; omega, Fits.of ⟨rfl, rfl, by rw [← hla]; rfl, rfl, rfl, rfl, trivial⟩ ?_ rfl⟩
          repeat (first | exact SubL.nil | exact SubL.refl _ | refine SubL.keep ?_ | exact SubL.headA _ _ | refine SubL.keepA ?_ _ | refine SubL.skip ?_ | refine SubL.skipA ?_ _)
      · have v2 : (sitE D kd sd nn == 0) = false := by simpa using he
        obtain ⟨E, hE⟩ : ∃ E, sitD D kd sd nn = E := ⟨_, rfl⟩
        rw [hE] at ST hsit hla
        clear hcl he hE
        repeat' (first | (refine wlS ?_) | (refine wlB ?_) | (refine wlE ?_) | (refine efSvao ?_; intro v oa ho) | (refine efZCnn ?_; intro n hn) | ((with_reducible refine sel_call ?_); first | (refine wl_updO rfl rfl rfl rfl rfl (fun w hm hw => by with_reducible exact ST w hw) ?_; intro x oa hx)) | (refine efBnn ?_; intro n hn) | (refine efB ?_) | (refine efBS ?_) | (refine wl_skip rfl rfl ?_) | ((with_reducible refine wc_seq ?_); intro K hK) | (refine auC ?_) | (refine wc_cond rfl (fun hc => ?_) (fun hc => ?_)) | (refine wc_draw (by kernel_rfl) (by kernel_rfl) (by decide +kernel) ?_; intro w0 hw0 hm0; (try simp only [List.append_eq, List.cons_append, List.nil_append])) | (refine auP ?_) | ((refine auR ?_); clear hK K) | (refine auR ?_) | ((with_reducible refine hK _ _ ?_); clear hK K) | fail)
        subst hx
        repeat' (first | (refine wlS ?_) | (refine wlB ?_) | (refine wlE ?_) | (refine efSvao ?_; intro v oa ho) | (refine efBnn ?_; intro n hn) | (refine efB ?_) | (refine efBS ?_) | (refine wl_skip rfl rfl ?_) | ((with_reducible refine wc_seq ?_); intro K hK) | (refine auC ?_) | (refine wc_cond rfl (fun hc => ?_) (fun hc => ?_)) | (refine wc_draw (by kernel_rfl) (by kernel_rfl) (by decide +kernel) ?_; intro w0 hw0 hm0; (try simp only [List.append_eq, List.cons_append, List.nil_append])) | (refine auP ?_) | ((refine auR ?_); clear hK K) | (refine auR ?_) | ((with_reducible refine hK _ _ ?_); clear hK K) | fail)
        refine ⟨(i + 1, E), ⟨hlt, hsit⟩, by dsimp only; omega, Fits.of ⟨rfl, rfl, by rw [← hla]; rfl, rfl, rfl, rfl, trivial⟩ ?_ rfl⟩
        repeat (first | exact SubL.nil | exact SubL.refl _ | refine SubL.keep ?_ | exact SubL.headA _ _ | refine SubL.keepA ?_ _ | refine SubL.skip ?_ | refine SubL.skipA ?_ _)
  · obtain rfl : i = l.length := by omega
    have u1 : decide ((l.length : Int) < (l.length : Int)) = false := decide_eq_false (by omega)
    have hlen2 := idsD_len D
    have h16 : D.m.length ≤ 1000000 := by have := hD.few; have := hD.hi; omega
    have L1 := fun w' (h' : Hd (dkB b g D) w') => list_s w' nd h' hD
    have IS := fun w' {v : Value} (h1 : Cs w' v D.m.length (ints (idsD D))) => isSorted_c w' h1 hlen2 h16 (idsD_sorted D)
    repeat' (first | (refine wlS ?_) | (refine wlB ?_) | (refine wlE ?_) | (refine efSvao ?_; intro v oa ho) | ((with_reducible refine sel_call ?_); first | (refine wl_newO rfl rfl rfl rfl rfl (fun w hm => by with_reducible exact L1 w (Mem.hd hm)) ?_; intro x oa hx)) | (refine efBnn ?_; intro n hn) | (refine efB ?_) | (refine efBS ?_) | (refine wl_skip rfl rfl ?_) | ((with_reducible refine wc_seq ?_); intro K hK) | (refine auC ?_) | (refine wc_cond rfl (fun hc => ?_) (fun hc => ?_)) | (refine wc_draw (by kernel_rfl) (by kernel_rfl) (by decide +kernel) ?_; intro w0 hw0 hm0; (try simp only [List.append_eq, List.cons_append, List.nil_append])) | (refine auP ?_) | ((refine auR ?_); clear hK K) | (refine auR ?_) | ((with_reducible refine hK _ _ ?_); clear hK K) | fail)
    repeat' (first | (refine wlS ?_) | (refine wlB ?_) | ((with_reducible refine sel_call ?_); refine wl_rd rfl rfl (rd_call rfl rfl rfl (fun w hm => by with_reducible exact IS w (Vw.out w hm))) ?_) | (refine wlE ?_) | (refine efSvao ?_; intro v oa ho) | (refine efBnn ?_; intro n hn) | (refine efB ?_) | (refine efBS ?_) | (refine wl_skip rfl rfl ?_) | ((with_reducible refine wc_seq ?_); intro K hK) | (refine auC ?_) | (refine wc_cond rfl (fun hc => ?_) (fun hc => ?_)) | (refine wc_draw (by kernel_rfl) (by kernel_rfl) (by decide +kernel) ?_; intro w0 hw0 hm0; (try simp only [List.append_eq, List.cons_append, List.nil_append])) | (refine auP ?_) | ((refine auR ?_); clear hK K) | (refine auR ?_) | ((with_reducible refine hK _ _ ?_); clear hK K) | fail)
    first | refine end_ret (ResP.tmp rfl ResP.nil) ?_ | refine end_normal (ResP.tmp rfl ResP.nil) ?_
    first | rfl | (show _ = _; rfl) | (simp only [tupV, *]; done)
end Go.Proofs.Ythljhaioblcgfaa.LoginIdsWalk
