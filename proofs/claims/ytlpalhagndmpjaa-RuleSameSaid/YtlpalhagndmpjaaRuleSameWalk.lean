/- RuleSame: the walk. -/
import Derived.Test.YtlpalhagndmpjaaJnAF
namespace Go.Proofs.Ytlpalhagndmpjaa
def fixK (k : Int) : Prop := k = 1 ∨ (4 ≤ k ∧ k ≤ 6) ∨ (10 ≤ k ∧ k ≤ 12)
theorem same_chk {l : List Ab} {k : Int} {q : List Nat} (hl : Obj l) (hg : getA l k = some q) : AbOk [(k, q)] := by
  have hm := (getA_mem hl.ok.nd).1 hg
  exact ⟨by simp, fun x hx => by simp only [List.mem_singleton] at hx; subst hx; exact hl.ok.each _ hm, by simp⟩
theorem same_no {l : List Ab} {k : Int} {q : List Nat} (hl : Obj l) (hg : getA l k = some q) (h : fixK k ∨ isA l 7 = false) : turnE l [(k, q)] false = 12 := by
  have hc := chkA_zero.2 (same_chk hl hg)
  unfold turnE
  rw [if_neg (by rw [hc]; simp)]
  by_cases h7 : isA l 7 = false
  · rw [if_pos (by rw [h7]; rfl)]
  · have h7' : isA l 7 = true := by simpa using h7
    rw [if_neg (by rw [h7']; simp)]
    have hf := h.resolve_right h7
    have ht : turnsB l (k, q) false = false := by
      unfold turnsB
      dsimp only
      by_cases a : k = 1 ∨ k = 4 ∨ k = 10 ∨ k = 11 ∨ k = 12
      · rw [if_pos a]
      · rw [if_neg a]
        by_cases b : k = 5
        · rw [if_pos b]
        · rw [if_neg b]
          have c6 : k = 6 := by unfold fixK at hf; omega
          rw [if_pos c6]; rfl
    have he : eachE l false [(k, q)] = 12 := by
      rw [eachE, if_neg (by rw [hg]; simp), if_pos ht]
    rw [he]; rfl
theorem same_norm {l : List Ab} {k : Int} {q : List Nat} (hl : Obj l) (hg : getA l k = some q) : IsNorm l (overA l [(k, q)]) := by
  have ht := same_chk hl hg
  have ho := over_ok hl.ok ht
  refine ⟨hl.rises, ?_⟩
  rw [List.perm_ext_iff_of_nodup (nodup_map hl.rises.nodup) (nodup_map ho.nd)]
  rintro ⟨k2, q2⟩
  rw [← getA_mem hl.ok.nd, ← getA_mem ho.nd, getA_over, getA_cons]
  dsimp only
  by_cases e : k = k2
  · subst e; rw [if_pos rfl, hg]; rfl
  · rw [if_neg e]; rfl
theorem same_yes {l : List Ab} {k : Int} {q : List Nat} (hl : Obj l) (hg : getA l k = some q) (hf : ¬ fixK k) (h7 : isA l 7 = true) : turnE l [(k, q)] false = 0 := by
  have hc := chkA_zero.2 (same_chk hl hg)
  have hm := (getA_mem hl.ok.nd).1 hg
  have hfit := (hl.ok.each _ hm).2.2
  unfold turnE
  rw [if_neg (by rw [hc]; simp), if_neg (by rw [h7]; simp)]
  have ht : turnsB l (k, q) false = true := by
    unfold turnsB
    dsimp only
    unfold fixK at hf
    rw [if_neg (by omega), if_neg (by omega), if_neg (by omega)]
    by_cases e8 : k = 8
    · subst e8
      rw [if_pos rfl, isA_def, hg]
      rcases fits_bit hfit (by decide) (by decide) (by decide) (by decide) with rfl | rfl <;> rfl
    · rw [if_neg e8]
      by_cases e9 : k = 9
      · subst e9
        rw [if_pos rfl, isA_def, hg]
        rcases fits_bit hfit (by decide) (by decide) (by decide) (by decide) with rfl | rfl <;> rfl
      · rw [if_neg e9]
  have he : eachE l false [(k, q)] = 0 := by
    rw [eachE, if_neg (by rw [hg]; simp), if_neg (by rw [ht]; simp)]; rfl
  rw [if_neg (by rw [he]; simp), if_pos ⟨l, same_norm hl hg, hl.valid⟩]
end Go.Proofs.Ytlpalhagndmpjaa
namespace Go.Proofs.Ytlpalhagndmpjaa.RuleSameWalk
open Go.RowKit
set_option linter.unusedVariables false
set_option linter.unusedSimpArgs false
set_option maxRecDepth 100000 in
set_option maxHeartbeats 16000000 in
theorem walk (w : World) {v : Value} {t : List Att} (h : Ats w v t) (loc : Bool) (k : Int) (hkw : (Lit.int .i64 k).wf = true) : Calls Try.prog 7 [v, .bool loc, .int .i64 k].toArray w (Ret (.bool true) w) := by
  haveI i0 := h.old
  have RU := rules_c
  by_cases he : makeE (abs t) loc ≠ 0
  · have MB := fun w' (h : Ats w' v t) => make_bad w' (loc := loc) h he
    have t1 : (makeE (abs t) loc != 0) = true := by simpa using he
    haveI hN := OwnT.nil.atf
    have GN := fun w' (h : Ats w' (.slice none 0 0) []) => get_no w' (k := k) h rfl
    clear h
    generalize makeE (abs t) loc = e at *
    refine fn_ret (N := _) Try.func7 rfl Try.ntmps7 Try.results7 (by simp) ?_
    simp only [initS, Nat.reduceAdd, Nat.zero_add]
    repeat' (first | (refine wlS ?_) | (refine wlB ?_) | ((with_reducible refine sel_call ?_); refine wl_rd rfl rfl (rd_call rfl rfl rfl (fun w hm => by with_reducible first | exact RU w | exact MB w (VwT.out w hm) | exact GN w (VwT.out w hm))) ?_) | (refine wlE ?_) | (refine efSvao ?_; intro v oa ho) | (refine wl_skip rfl rfl ?_) | ((with_reducible refine wc_seq ?_); intro K hK) | (refine auC ?_) | (refine wc_cond rfl (fun hc => ?_) (fun hc => ?_)) | (refine wc_draw (by kernel_rfl) (by kernel_rfl) (by decide +kernel) ?_; intro w0 hw0 hm0; (try simp only [List.append_eq, List.cons_append, List.nil_append])) | (refine auP ?_) | ((refine auR ?_); clear hK K) | (refine auR ?_) | ((with_reducible refine hK _ _ ?_); clear hK K) | fail)
    first | refine end_ret (ResP.tmp rfl ResP.nil) ?_ | refine end_normal (ResP.tmp rfl ResP.nil) ?_
    first | rfl | (show _ = _; rfl) | (simp only [tupV, *]; done)
  have he' : makeE (abs t) loc = 0 := Decidable.of_not_not he
  have MG := fun w' (h : Ats w' v t) => make_good w' (loc := loc) h he'
  have hobj := Make.obj he'
  have t0 : ((0 : Int) != 0) = false := rfl
  have t00 : ((0 : Int) == 0) = true := rfl
  clear h he
  refine fn_ret (N := _) Try.func7 rfl Try.ntmps7 Try.results7 (by simp) ?_
  simp only [initS, Nat.reduceAdd, Nat.zero_add]
  repeat' (first | (refine wlS ?_) | (refine wlB ?_) | ((with_reducible refine sel_call ?_); refine wl_rd rfl rfl (rd_call rfl rfl rfl (fun w hm => by with_reducible exact RU w)) ?_) | (refine wlE ?_) | (refine efSvao ?_; intro v oa ho) | ((with_reducible refine sel_call ?_); first | (refine wl_newO rfl rfl rfl rfl rfl (fun w hm => by with_reducible exact MG w (VwT.out w hm)) ?_; intro x oa hx)) | (refine wl_skip rfl rfl ?_) | ((with_reducible refine wc_seq ?_); intro K hK) | (refine auC ?_) | (refine wc_cond rfl (fun hc => ?_) (fun hc => ?_)) | (refine wc_draw (by kernel_rfl) (by kernel_rfl) (by decide +kernel) ?_; intro w0 hw0 hm0; (try simp only [List.append_eq, List.cons_append, List.nil_append])) | (refine auP ?_) | ((refine auR ?_); clear hK K) | (refine auR ?_) | ((with_reducible refine hK _ _ ?_); clear hK K) | fail)
  obtain ⟨u0, rfl⟩ : ∃ u0, u0 = x := ⟨x, rfl⟩
  obtain ⟨oM, rfl⟩ : ∃ oM, oM = oa := ⟨oa, rfl⟩
  obtain ⟨js, hoj, hjb⟩ := hx
  haveI hJ := hoj.atf
  rw [← hjb] at hobj
  clear MG RU hjb hoj
  cases hg : getA (abs js) k with
  | none =>
    have GN := fun w' (h : Ats w' u0 js) => get_no w' h hg
    repeat' (first | (refine wlS ?_) | (refine wlB ?_) | ((with_reducible refine sel_call ?_); refine wl_rd rfl rfl (rd_call rfl rfl rfl (fun w hm => by with_reducible exact GN w (VwT.out w hm))) ?_) | (refine wlE ?_) | (refine efSvao ?_; intro v oa ho) | (refine wl_skip rfl rfl ?_) | ((with_reducible refine wc_seq ?_); intro K hK) | (refine auC ?_) | (refine wc_cond rfl (fun hc => ?_) (fun hc => ?_)) | (refine wc_draw (by kernel_rfl) (by kernel_rfl) (by decide +kernel) ?_; intro w0 hw0 hm0; (try simp only [List.append_eq, List.cons_append, List.nil_append])) | (refine auP ?_) | ((refine auR ?_); clear hK K) | (refine auR ?_) | ((with_reducible refine hK _ _ ?_); clear hK K) | fail)
    first | refine end_ret (ResP.tmp rfl ResP.nil) ?_ | refine end_normal (ResP.tmp rfl ResP.nil) ?_
    first | rfl | (show _ = _; rfl) | (simp only [tupV, *]; done)
  | some q =>
    have GY := fun w' (h : Ats w' u0 js) => get_yesA w' h hobj.ok hg
    repeat' (first | (refine wlS ?_) | (refine wlB ?_) | (refine wlE ?_) | (refine efSvao ?_; intro v oa ho) | ((with_reducible refine sel_call ?_); first | (refine wl_newO rfl rfl rfl rfl rfl (fun w hm => by with_reducible exact GY w (VwT.out w hm)) ?_; intro x oa hx)) | (refine wl_skip rfl rfl ?_) | ((with_reducible refine wc_seq ?_); intro K hK) | (refine auC ?_) | (refine wc_cond rfl (fun hc => ?_) (fun hc => ?_)) | (refine wc_draw (by kernel_rfl) (by kernel_rfl) (by decide +kernel) ?_; intro w0 hw0 hm0; (try simp only [List.append_eq, List.cons_append, List.nil_append])) | (refine auP ?_) | ((refine auR ?_); clear hK K) | (refine auR ?_) | ((with_reducible refine hK _ _ ?_); clear hK K) | fail)
    obtain ⟨vq, rfl⟩ : ∃ vq, vq = x := ⟨x, rfl⟩
    haveI hA : AtF _ v [(k, vq, q)] := AtF.mk' (OwnL.cs (h := ho)) (BodF.one (k := k) hx)
    obtain ⟨sv, rfl⟩ : ∃ sv, sv = v := ⟨v, rfl⟩
    have hin := hobj.ok.each _ ((getA_mem hobj.ok.nd).1 hg)
    dsimp only at hin
    obtain ⟨x7, hx7⟩ : ∃ b, isA (abs js) 7 = b := ⟨_, rfl⟩
    have I7 := fun w' (h : Ats w' u0 js) => is_c w' h hx7
    have e12 : ((12 : Int) == 12) = true := rfl
    have e00 : (((0 : Nat) : Int) == 0) = true := rfl
    have CB := fun (hn : fixK k ∨ isA (abs js) 7 = false) w' (h : Ats w' u0 js) (h' : Ats w' sv [(k, vq, q)]) => (show Calls Try.prog 24 [u0, sv].toArray w' (Ret (.tuple #[.slice none 0 0, .int .i64 12]) w') by
      have h12 := same_no hobj hg hn
      have := change_bad w' h h' hobj (by show turnE (abs js) [(k, q)] false ≠ 0; rw [h12]; decide)
      rwa [show turnE (abs js) (abs [(k, vq, q)]) false = 12 from h12] at this)
    have CG := fun (hn : ¬ fixK k) (h7 : isA (abs js) 7 = true) w' (h : Ats w' u0 js) (h' : Ats w' sv [(k, vq, q)]) => change_good w' h h' hobj (show turnE (abs js) [(k, q)] false = 0 from same_yes hobj hg hn h7)
    clear GY
    by_cases hf : fixK k
    · have CB1 := CB (.inl hf)
      clear CB CG I7 hx7
      rcases hf with h1 | ⟨h1, h2⟩ | ⟨h1, h2⟩
      · have q1 : (k == 1) = true := by simpa using h1
        repeat' (first | (refine wlS ?_) | (refine wlB ?_) | ((with_reducible refine sel_call ?_); refine wl_rd rfl rfl (rd_call rfl rfl rfl (fun w hm => by with_reducible exact CB1 w (VwT.out w hm) (VwT.out w hm))) ?_) | (refine wlE ?_) | (refine efSvao ?_; intro v oa ho) | (refine wl_skip rfl rfl ?_) | ((with_reducible refine wc_seq ?_); intro K hK) | (refine auC ?_) | (refine wc_cond rfl (fun hc => ?_) (fun hc => ?_)) | (refine wc_draw (by kernel_rfl) (by kernel_rfl) (by decide +kernel) ?_; intro w0 hw0 hm0; (try simp only [List.append_eq, List.cons_append, List.nil_append])) | (refine auP ?_) | ((refine auR ?_); clear hK K) | (refine auR ?_) | ((with_reducible refine hK _ _ ?_); clear hK K) | fail)
        first | refine end_ret (ResP.tmp rfl ResP.nil) ?_ | refine end_normal (ResP.tmp rfl ResP.nil) ?_
        first | rfl | (show _ = _; rfl) | (simp only [tupV, *]; done)
      · have q1 : (k == 1) = false := by simp only [beq_eq_false_iff_ne, ne_eq]; omega
        have q2 : decide (k ≥ 4) = true := decide_eq_true (by omega)
        have q3 : decide (k ≤ 6) = true := decide_eq_true (by omega)
        repeat' (first | (refine wlS ?_) | (refine wlB ?_) | ((with_reducible refine sel_call ?_); refine wl_rd rfl rfl (rd_call rfl rfl rfl (fun w hm => by with_reducible exact CB1 w (VwT.out w hm) (VwT.out w hm))) ?_) | (refine wlE ?_) | (refine efSvao ?_; intro v oa ho) | (refine wl_skip rfl rfl ?_) | ((with_reducible refine wc_seq ?_); intro K hK) | (refine auC ?_) | (refine wc_cond rfl (fun hc => ?_) (fun hc => ?_)) | (refine wc_draw (by kernel_rfl) (by kernel_rfl) (by decide +kernel) ?_; intro w0 hw0 hm0; (try simp only [List.append_eq, List.cons_append, List.nil_append])) | (refine auP ?_) | ((refine auR ?_); clear hK K) | (refine auR ?_) | ((with_reducible refine hK _ _ ?_); clear hK K) | fail)
        first | refine end_ret (ResP.tmp rfl ResP.nil) ?_ | refine end_normal (ResP.tmp rfl ResP.nil) ?_
        first | rfl | (show _ = _; rfl) | (simp only [tupV, *]; done)
      · have q1 : (k == 1) = false := by simp only [beq_eq_false_iff_ne, ne_eq]; omega
        have q2 : decide (k ≥ 4) = true := decide_eq_true (by omega)
        have q3 : decide (k ≤ 6) = false := decide_eq_false (by omega)
        have q4 : decide (k ≥ 10) = true := decide_eq_true (by omega)
        have q5 : decide (k ≤ 12) = true := decide_eq_true (by omega)
        repeat' (first | (refine wlS ?_) | (refine wlB ?_) | ((with_reducible refine sel_call ?_); refine wl_rd rfl rfl (rd_call rfl rfl rfl (fun w hm => by with_reducible exact CB1 w (VwT.out w hm) (VwT.out w hm))) ?_) | (refine wlE ?_) | (refine efSvao ?_; intro v oa ho) | (refine wl_skip rfl rfl ?_) | ((with_reducible refine wc_seq ?_); intro K hK) | (refine auC ?_) | (refine wc_cond rfl (fun hc => ?_) (fun hc => ?_)) | (refine wc_draw (by kernel_rfl) (by kernel_rfl) (by decide +kernel) ?_; intro w0 hw0 hm0; (try simp only [List.append_eq, List.cons_append, List.nil_append])) | (refine auP ?_) | ((refine auR ?_); clear hK K) | (refine auR ?_) | ((with_reducible refine hK _ _ ?_); clear hK K) | fail)
        first | refine end_ret (ResP.tmp rfl ResP.nil) ?_ | refine end_normal (ResP.tmp rfl ResP.nil) ?_
        first | rfl | (show _ = _; rfl) | (simp only [tupV, *]; done)
    · have q1 : (k == 1) = false := by simp only [beq_eq_false_iff_ne, ne_eq]; intro e; exact hf (.inl e)
      have hways : (decide (k ≥ 4) = false ∧ decide (k ≥ 10) = false) ∨ (decide (k ≥ 4) = true ∧ decide (k ≤ 6) = false ∧ decide (k ≥ 10) = false) ∨ (decide (k ≥ 4) = true ∧ decide (k ≤ 6) = false ∧ decide (k ≥ 10) = true ∧ decide (k ≤ 12) = false) := by
        unfold fixK at hf
        simp only [decide_eq_true_iff, decide_eq_false_iff_not]
        omega
      cases x7 with
      | false =>
        have CB1 := CB (.inr hx7)
        clear CB CG hx7
        rcases hways with ⟨q2, q4⟩ | ⟨q2, q3, q4⟩ | ⟨q2, q3, q4, q5⟩
        all_goals (
          repeat' (first | (refine wlS ?_) | (refine wlB ?_) | ((with_reducible refine sel_call ?_); refine wl_rd rfl rfl (rd_call rfl rfl rfl (fun w hm => by with_reducible first | exact CB1 w (VwT.out w hm) (VwT.out w hm) | exact I7 w (VwT.out w hm))) ?_) | (refine wlE ?_) | (refine efSvao ?_; intro v oa ho) | (refine wl_skip rfl rfl ?_) | ((with_reducible refine wc_seq ?_); intro K hK) | (refine auC ?_) | (refine wc_cond rfl (fun hc => ?_) (fun hc => ?_)) | (refine wc_draw (by kernel_rfl) (by kernel_rfl) (by decide +kernel) ?_; intro w0 hw0 hm0; (try simp only [List.append_eq, List.cons_append, List.nil_append])) | (refine auP ?_) | ((refine auR ?_); clear hK K) | (refine auR ?_) | ((with_reducible refine hK _ _ ?_); clear hK K) | fail))
        all_goals (
          first | refine end_ret (ResP.tmp rfl ResP.nil) ?_ | refine end_normal (ResP.tmp rfl ResP.nil) ?_
          first | rfl | (show _ = _; rfl) | (simp only [tupV, *]; done))
      | true =>
        have CG1 := CG hf hx7
        have hone : ∀ m, IsNorm m (overA (abs js) (abs [(k, vq, q)])) → m = abs js := fun m hm => IsNorm.only hm (same_norm hobj hg)
        clear CB CG hx7
        rcases hways with ⟨q2, q4⟩ | ⟨q2, q3, q4⟩ | ⟨q2, q3, q4, q5⟩
        · repeat' (first | (refine wlS ?_) | (refine wlB ?_) | (refine wlE ?_) | (refine efSvao ?_; intro v oa ho) | ((with_reducible refine sel_call ?_); first | (refine wl_newO rfl rfl rfl rfl rfl (fun w hm => by with_reducible exact CG1 w (VwT.out w hm) (VwT.out w hm)) ?_; intro x oa hx)) | (refine wl_skip rfl rfl ?_) | ((with_reducible refine wc_seq ?_); intro K hK) | (refine auC ?_) | (refine wc_cond rfl (fun hc => ?_) (fun hc => ?_)) | (refine auP ?_) | ((refine auR ?_); clear hK K) | (refine auR ?_) | ((with_reducible refine hK _ _ ?_); clear hK K) | fail)
          obtain ⟨its, hot, htu⟩ := hx
          haveI hB := hot.atf
          have hab : abs its = abs js := hone _ htu.norm
          obtain ⟨un, rfl⟩ : ∃ u, u = x := ⟨x, rfl⟩
          have SA := fun w' (h : Ats w' un its) (h' : Ats w' u0 js) => sameA_c w' h h' (r := true) (by rw [hab]; simp)
          repeat' (first | (refine wlS ?_) | (refine wlB ?_) | ((with_reducible refine sel_call ?_); refine wl_rd rfl rfl (rd_call rfl rfl rfl (fun w hm => by with_reducible first | exact I7 w (VwT.out w hm) | exact SA w (VwT.out w hm) (VwT.out w hm))) ?_) | (refine wlE ?_) | (refine efSvao ?_; intro v oa ho) | (refine wl_skip rfl rfl ?_) | ((with_reducible refine wc_seq ?_); intro K hK) | (refine auC ?_) | (refine wc_cond rfl (fun hc => ?_) (fun hc => ?_)) | (refine wc_draw (by kernel_rfl) (by kernel_rfl) (by decide +kernel) ?_; intro w0 hw0 hm0; (try simp only [List.append_eq, List.cons_append, List.nil_append])) | (refine auP ?_) | ((refine auR ?_); clear hK K) | (refine auR ?_) | ((with_reducible refine hK _ _ ?_); clear hK K) | fail)
          first | refine end_ret (ResP.tmp rfl ResP.nil) ?_ | refine end_normal (ResP.tmp rfl ResP.nil) ?_
          first | rfl | (show _ = _; rfl) | (simp only [tupV, *]; done)
        · repeat' (first | (refine wlS ?_) | (refine wlB ?_) | (refine wlE ?_) | (refine efSvao ?_; intro v oa ho) | ((with_reducible refine sel_call ?_); first | (refine wl_newO rfl rfl rfl rfl rfl (fun w hm => by with_reducible exact CG1 w (VwT.out w hm) (VwT.out w hm)) ?_; intro x oa hx)) | (refine wl_skip rfl rfl ?_) | ((with_reducible refine wc_seq ?_); intro K hK) | (refine auC ?_) | (refine wc_cond rfl (fun hc => ?_) (fun hc => ?_)) | (refine auP ?_) | ((refine auR ?_); clear hK K) | (refine auR ?_) | ((with_reducible refine hK _ _ ?_); clear hK K) | fail)
          obtain ⟨its, hot, htu⟩ := hx
          haveI hB := hot.atf
          have hab : abs its = abs js := hone _ htu.norm
          obtain ⟨un, rfl⟩ : ∃ u, u = x := ⟨x, rfl⟩
          have SA := fun w' (h : Ats w' un its) (h' : Ats w' u0 js) => sameA_c w' h h' (r := true) (by rw [hab]; simp)
          repeat' (first | (refine wlS ?_) | (refine wlB ?_) | ((with_reducible refine sel_call ?_); refine wl_rd rfl rfl (rd_call rfl rfl rfl (fun w hm => by with_reducible first | exact I7 w (VwT.out w hm) | exact SA w (VwT.out w hm) (VwT.out w hm))) ?_) | (refine wlE ?_) | (refine efSvao ?_; intro v oa ho) | (refine wl_skip rfl rfl ?_) | ((with_reducible refine wc_seq ?_); intro K hK) | (refine auC ?_) | (refine wc_cond rfl (fun hc => ?_) (fun hc => ?_)) | (refine wc_draw (by kernel_rfl) (by kernel_rfl) (by decide +kernel) ?_; intro w0 hw0 hm0; (try simp only [List.append_eq, List.cons_append, List.nil_append])) | (refine auP ?_) | ((refine auR ?_); clear hK K) | (refine auR ?_) | ((with_reducible refine hK _ _ ?_); clear hK K) | fail)
          first | refine end_ret (ResP.tmp rfl ResP.nil) ?_ | refine end_normal (ResP.tmp rfl ResP.nil) ?_
          first | rfl | (show _ = _; rfl) | (simp only [tupV, *]; done)
        · repeat' (first | (refine wlS ?_) | (refine wlB ?_) | (refine wlE ?_) | (refine efSvao ?_; intro v oa ho) | ((with_reducible refine sel_call ?_); first | (refine wl_newO rfl rfl rfl rfl rfl (fun w hm => by with_reducible exact CG1 w (VwT.out w hm) (VwT.out w hm)) ?_; intro x oa hx)) | (refine wl_skip rfl rfl ?_) | ((with_reducible refine wc_seq ?_); intro K hK) | (refine auC ?_) | (refine wc_cond rfl (fun hc => ?_) (fun hc => ?_)) | (refine auP ?_) | ((refine auR ?_); clear hK K) | (refine auR ?_) | ((with_reducible refine hK _ _ ?_); clear hK K) | fail)
          obtain ⟨its, hot, htu⟩ := hx
          haveI hB := hot.atf
          have hab : abs its = abs js := hone _ htu.norm
          obtain ⟨un, rfl⟩ : ∃ u, u = x := ⟨x, rfl⟩
          have SA := fun w' (h : Ats w' un its) (h' : Ats w' u0 js) => sameA_c w' h h' (r := true) (by rw [hab]; simp)
          repeat' (first | (refine wlS ?_) | (refine wlB ?_) | ((with_reducible refine sel_call ?_); refine wl_rd rfl rfl (rd_call rfl rfl rfl (fun w hm => by with_reducible first | exact I7 w (VwT.out w hm) | exact SA w (VwT.out w hm) (VwT.out w hm))) ?_) | (refine wlE ?_) | (refine efSvao ?_; intro v oa ho) | (refine wl_skip rfl rfl ?_) | ((with_reducible refine wc_seq ?_); intro K hK) | (refine auC ?_) | (refine wc_cond rfl (fun hc => ?_) (fun hc => ?_)) | (refine wc_draw (by kernel_rfl) (by kernel_rfl) (by decide +kernel) ?_; intro w0 hw0 hm0; (try simp only [List.append_eq, List.cons_append, List.nil_append])) | (refine auP ?_) | ((refine auR ?_); clear hK K) | (refine auR ?_) | ((with_reducible refine hK _ _ ?_); clear hK K) | fail)
          first | refine end_ret (ResP.tmp rfl ResP.nil) ?_ | refine end_normal (ResP.tmp rfl ResP.nil) ?_
          first | rfl | (show _ = _; rfl) | (simp only [tupV, *]; done)
end Go.Proofs.Ytlpalhagndmpjaa.RuleSameWalk
