/- RuleSides: the walk. (Printed by wip/genrule3.py.) -/
import Derived.Test.YtlpalhagndmpjaaJnAF
namespace Go.Proofs.Ytlpalhagndmpjaa.RuleSidesWalk
open Go.RowKit
set_option linter.unusedVariables false
set_option linter.unusedSimpArgs false
set_option maxRecDepth 100000 in
set_option maxHeartbeats 16000000 in
theorem walk (w : World) {v tv : Value} {t : List Att} (h : Ats w v t) (loc : Bool) {l : List Tun} (hl : Tuns w tv l) : Calls Try.prog 10 [v, .bool loc, tv].toArray w (Ret (.bool true) w) := by
  haveI i0 := h.old
  haveI i1 := hl.cs.old
  have hbody := hl.body
  by_cases he : makeE (abs t) loc ≠ 0
  · have MB := fun w' (h : Ats w' v t) => make_bad w' (loc := loc) h he
    have t1 : (makeE (abs t) loc != 0) = true := by simpa using he
    have t2 : (makeE (abs t) loc == 0) = false := by simpa using he
    have t3 : (((0 : Nat) : Int) == 0) = true := rfl
    clear h hl hbody
    generalize makeE (abs t) loc = e at *
    refine fn_ret (N := _) Try.func10 rfl Try.ntmps10 Try.results10 (by simp) ?_
    simp only [initS, Nat.reduceAdd, Nat.zero_add]
    repeat' (first | (refine wlS ?_) | (refine wlB ?_) | ((with_reducible refine sel_call ?_); refine wl_rd rfl rfl (rd_call rfl rfl rfl (fun w hm => by with_reducible exact MB w (VwT.out w hm))) ?_) | (refine wlE ?_) | (refine efSvao ?_; intro v oa ho) | (refine efBnn ?_; intro n hn) | (refine efB ?_) | (refine efBS ?_) | (refine wl_skip rfl rfl ?_) | ((with_reducible refine wc_seq ?_); intro K hK) | (refine auC ?_) | (refine wc_cond rfl (fun hc => ?_) (fun hc => ?_)) | (refine wc_draw (by kernel_rfl) (by kernel_rfl) (by decide +kernel) ?_; intro w0 hw0 hm0; (try simp only [List.append_eq, List.cons_append, List.nil_append])) | (refine auP ?_) | ((refine auR ?_); clear hK K) | (refine auR ?_) | ((with_reducible refine hK _ _ ?_); clear hK K) | fail)
    first | refine end_ret (ResP.tmp rfl ResP.nil) ?_ | refine end_normal (ResP.tmp rfl ResP.nil) ?_
    first | rfl | (show _ = _; rfl) | (simp only [tupV, *]; done)
  have he' : makeE (abs t) loc = 0 := Decidable.of_not_not he
  have MG := fun w' (h : Ats w' v t) => make_good w' (loc := loc) h he'
  have hobj := Make.obj he'
  have t0 : ((0 : Int) != 0) = false := rfl
  have t00 : ((0 : Int) == 0) = true := rfl
  by_cases hbig : l.length > 40
  · have t1 : decide ((l.length : Int) > 40) = true := decide_eq_true (by omega)
    clear h hl hbody
    refine fn_ret (N := _) Try.func10 rfl Try.ntmps10 Try.results10 (by simp) ?_
    simp only [initS, Nat.reduceAdd, Nat.zero_add]
    repeat' (first | (refine wlS ?_) | (refine wlB ?_) | (refine wlE ?_) | (refine efSvao ?_; intro v oa ho) | ((with_reducible refine sel_call ?_); first | (refine wl_newO rfl rfl rfl rfl rfl (fun w hm => by with_reducible exact MG w (VwT.out w hm)) ?_; intro x oa hx)) | (refine efBnn ?_; intro n hn) | (refine efB ?_) | (refine efBS ?_) | (refine wl_skip rfl rfl ?_) | ((with_reducible refine wc_seq ?_); intro K hK) | (refine auC ?_) | (refine wc_cond rfl (fun hc => ?_) (fun hc => ?_)) | (refine wc_draw (by kernel_rfl) (by kernel_rfl) (by decide +kernel) ?_; intro w0 hw0 hm0; (try simp only [List.append_eq, List.cons_append, List.nil_append])) | (refine auP ?_) | ((refine auR ?_); clear hK K) | (refine auR ?_) | ((with_reducible refine hK _ _ ?_); clear hK K) | fail)
    first | refine end_ret (ResP.tmp rfl ResP.nil) ?_ | refine end_normal (ResP.tmp rfl ResP.nil) ?_
    first | rfl | (show _ = _; rfl) | (simp only [tupV, *]; done)
  have t1 : decide ((l.length : Int) > 40) = false := decide_eq_false (by omega)
  clear h hl he
  refine fn_ret (N := _) Try.func10 rfl Try.ntmps10 Try.results10 (by simp) ?_
  simp only [initS, Nat.reduceAdd, Nat.zero_add]
  repeat' (first | (refine wlS ?_) | (refine wlB ?_) | (refine wlE ?_) | (refine efSvao ?_; intro v oa ho) | ((with_reducible refine sel_call ?_); first | (refine wl_newO rfl rfl rfl rfl rfl (fun w hm => by with_reducible exact MG w (VwT.out w hm)) ?_; intro x oa hx)) | (refine efBnn ?_; intro n hn) | (refine efB ?_) | (refine efBS ?_) | (refine wl_skip rfl rfl ?_) | ((with_reducible refine wc_seq ?_); intro K hK) | (refine auC ?_) | (refine wc_cond rfl (fun hc => ?_) (fun hc => ?_)) | (refine auP ?_) | ((refine auR ?_); clear hK K) | (refine auR ?_) | ((with_reducible refine hK _ _ ?_); clear hK K) | fail)
  obtain ⟨u0, rfl⟩ : ∃ u0, u0 = x := ⟨x, rfl⟩
  obtain ⟨oM, rfl⟩ : ∃ oM, oM = oa := ⟨oa, rfl⟩
  obtain ⟨js, hoj, hjb⟩ := hx
  haveI hJ := hoj.atf
  haveI hJc := hJ.cs
  rw [← hjb] at hobj
  repeat' (first | (refine wlS ?_) | (refine wlB ?_) | (refine wlE ?_) | (refine efSvao ?_; intro v oa ho) | (refine efBnn ?_; intro n hn) | (refine efB ?_) | (refine efBS ?_) | (refine wl_skip rfl rfl ?_) | ((with_reducible refine wc_seq ?_); intro K hK) | (refine auC ?_) | (refine wc_cond rfl (fun hc => ?_) (fun hc => ?_)) | (refine auP ?_) | ((refine auR ?_); clear hK K) | (refine auR ?_) | ((with_reducible refine hK _ _ ?_); clear hK K) | fail)
  refine wc_loop (σ := TnS) (fun x => [(2, tv), (7, x.v), (33, tv), (34, .int .i64 (l.length : Int)), (35, .int .i64 (x.i : Int))]) (fun x => x.ob) (TnS.Ok (abs js) l.length) (fun x => l.length - x.i) ⟨0, u0, js, oM⟩ ⟨Nat.zero_le _, hJ, hobj, fun k hk => rfl⟩ (Fits.of ⟨rfl, rfl, rfl, rfl, rfl, trivial⟩ (SubL.refl _) rfl) ?_
  clear MG
  rintro ⟨i, vo, its, ob⟩ hok
  have hok2 := hok
  obtain ⟨hi, hA, hO, hfx⟩ := hok2
  dsimp only at hi hA hO hfx ⊢
  haveI := hA.cs
  by_cases hlt : i < l.length
  · obtain ⟨⟨c, bv, ts⟩, hlx⟩ : ∃ x, l[i]? = some x := ⟨l[i]'(by omega), List.getElem?_eq_getElem _⟩
    have hget := tunsC_get hlx
    have hb := hbody _ (List.mem_of_getElem? hlx)
    dsimp only at hb hget
    obtain ⟨pb, cb, rfl, _⟩ := hb.cs.ln.out
    haveI i5 := hb.old
    have TD := fun w' (h1 : Ats w' vo its) (h2 : Ats w' (.slice pb ts.length cb) ts) => turned_c w' (c := c) hA hO h1 h2
    have u1 : decide ((i : Int) < (l.length : Int)) = true := decide_eq_true (by omega)
    have u2 : IntKind.i64.wrap ((i : Int) + 1) = ((i + 1 : Nat) : Int) := by rw [wrap_i64 _ (by omega) (by omega)]; omega
    have j1 : (i : Int) < (l.length : Int) := by omega
    repeat' (first | (refine wlS ?_) | (refine wlB ?_) | (refine wlE ?_) | (refine efSvao ?_; intro v oa ho) | (refine efZCnn ?_; intro n hn) | ((with_reducible refine sel_call ?_); first | (refine wl_newO rfl rfl rfl rfl rfl (fun w hm => by with_reducible exact TD w (VwT.out w hm) (VwT.out w hm)) ?_; intro x oa hx)) | (refine efBnn ?_; intro n hn) | (refine efB ?_) | (refine efBS ?_) | (refine wl_skip rfl rfl ?_) | ((with_reducible refine wc_seq ?_); intro K hK) | (refine auC ?_) | (refine wc_cond rfl (fun hc => ?_) (fun hc => ?_)) | (refine auP ?_) | ((refine auR ?_); clear hK K) | (refine auR ?_) | ((with_reducible refine hK _ _ ?_); clear hK K) | fail)
    obtain ⟨it2, hy, hst⟩ := hx
    refine ⟨_, hok.next hlt hy hst, by dsimp only; omega, Fits.of ⟨rfl, rfl, rfl, rfl, rfl, trivial⟩ ?_ rfl⟩
    repeat (first | exact SubL.nil | exact SubL.refl _ | refine SubL.keep ?_ | exact SubL.headA _ _ | refine SubL.keepA ?_ _ | refine SubL.skip ?_ | refine SubL.skipA ?_ _)
  · obtain rfl : i = l.length := by omega
    have u1 : decide ((l.length : Int) < (l.length : Int)) = false := decide_eq_false (by omega)
    have hso := valid_sound hO.valid
    have MY := fun (k : Int) (h1 : 13 ≤ k) (h2 : k ≤ 18) {b : Bool} (hb : isA (abs its) k = b) => (show ∃ r : Int, (r == 0) = b ∧ ∀ w', Ats w' vo its → Calls Try.prog 28 [vo, .int .i64 k].toArray w' (Ret (.int .i64 r) w') from by
      refine ⟨_, ?_, fun w' h => may_c w' (k := k) h hO.ok h1 h2 rfl⟩
      by_cases hg : getA (abs its) k = none
      · rw [if_pos hg, ← hb, isA_def, hg]; rfl
      · rw [if_neg hg, hb]
        cases b <;> rfl)
    obtain ⟨b16, h16⟩ : ∃ b, isA (abs its) 16 = b := ⟨_, rfl⟩
    obtain ⟨b17, h17⟩ : ∃ b, isA (abs its) 17 = b := ⟨_, rfl⟩
    obtain ⟨b13, h13⟩ : ∃ b, isA (abs its) 13 = b := ⟨_, rfl⟩
    obtain ⟨b14, h14⟩ : ∃ b, isA (abs its) 14 = b := ⟨_, rfl⟩
    obtain ⟨b15, h15⟩ : ∃ b, isA (abs its) 15 = b := ⟨_, rfl⟩
    obtain ⟨r16, e16, M16⟩ := MY 16 (by decide) (by decide) h16
    obtain ⟨r17, e17, M17⟩ := MY 17 (by decide) (by decide) h17
    obtain ⟨r13, e13, M13⟩ := MY 13 (by decide) (by decide) h13
    obtain ⟨r14, e14, M14⟩ := MY 14 (by decide) (by decide) h14
    obtain ⟨r15, e15, M15⟩ := MY 15 (by decide) (by decide) h15
    have hcase : (b16 = false ∧ b17 = false) ∨ (b13 = false ∧ b14 = false ∧ b15 = false) := by
      unfold soundB at hso
      rw [h16, h17, h13, h14, h15] at hso
      simp only [Bool.and_eq_true] at hso
      have h3 := hso.2
      cases b16 <;> cases b17 <;> cases b13 <;> cases b14 <;> cases b15 <;> simp_all
    clear MY hso h16 h17 h13 h14 h15 hfx hok hbody
    rcases hcase with ⟨rfl, rfl⟩ | ⟨rfl, rfl, rfl⟩
    · cases b13
      · cases b14
        · cases b15
          all_goals (
            repeat' (first | (refine wlS ?_) | (refine wlB ?_) | ((with_reducible refine sel_call ?_); refine wl_rd rfl rfl (rd_call rfl rfl rfl (fun w hm => by with_reducible first | exact M16 w (VwT.out w hm) | exact M17 w (VwT.out w hm) | exact M13 w (VwT.out w hm) | exact M14 w (VwT.out w hm) | exact M15 w (VwT.out w hm))) ?_) | (refine wlE ?_) | (refine efSvao ?_; intro v oa ho) | (refine efBnn ?_; intro n hn) | (refine efB ?_) | (refine efBS ?_) | (refine wl_skip rfl rfl ?_) | ((with_reducible refine wc_seq ?_); intro K hK) | (refine auC ?_) | (refine wc_cond rfl (fun hc => ?_) (fun hc => ?_)) | (refine wc_draw (by kernel_rfl) (by kernel_rfl) (by decide +kernel) ?_; intro w0 hw0 hm0; (try simp only [List.append_eq, List.cons_append, List.nil_append])) | (refine auP ?_) | ((refine auR ?_); clear hK K) | (refine auR ?_) | ((with_reducible refine hK _ _ ?_); clear hK K) | fail))
          all_goals (
            first | refine end_ret (ResP.tmp rfl ResP.nil) ?_ | refine end_normal (ResP.tmp rfl ResP.nil) ?_
            first | rfl | (show _ = _; rfl) | (simp only [tupV, *]; done))
        · repeat' (first | (refine wlS ?_) | (refine wlB ?_) | ((with_reducible refine sel_call ?_); refine wl_rd rfl rfl (rd_call rfl rfl rfl (fun w hm => by with_reducible first | exact M16 w (VwT.out w hm) | exact M17 w (VwT.out w hm) | exact M13 w (VwT.out w hm) | exact M14 w (VwT.out w hm))) ?_) | (refine wlE ?_) | (refine efSvao ?_; intro v oa ho) | (refine efBnn ?_; intro n hn) | (refine efB ?_) | (refine efBS ?_) | (refine wl_skip rfl rfl ?_) | ((with_reducible refine wc_seq ?_); intro K hK) | (refine auC ?_) | (refine wc_cond rfl (fun hc => ?_) (fun hc => ?_)) | (refine wc_draw (by kernel_rfl) (by kernel_rfl) (by decide +kernel) ?_; intro w0 hw0 hm0; (try simp only [List.append_eq, List.cons_append, List.nil_append])) | (refine auP ?_) | ((refine auR ?_); clear hK K) | (refine auR ?_) | ((with_reducible refine hK _ _ ?_); clear hK K) | fail)
          first | refine end_ret (ResP.tmp rfl ResP.nil) ?_ | refine end_normal (ResP.tmp rfl ResP.nil) ?_
          first | rfl | (show _ = _; rfl) | (simp only [tupV, *]; done)
      · repeat' (first | (refine wlS ?_) | (refine wlB ?_) | ((with_reducible refine sel_call ?_); refine wl_rd rfl rfl (rd_call rfl rfl rfl (fun w hm => by with_reducible first | exact M16 w (VwT.out w hm) | exact M17 w (VwT.out w hm) | exact M13 w (VwT.out w hm))) ?_) | (refine wlE ?_) | (refine efSvao ?_; intro v oa ho) | (refine efBnn ?_; intro n hn) | (refine efB ?_) | (refine efBS ?_) | (refine wl_skip rfl rfl ?_) | ((with_reducible refine wc_seq ?_); intro K hK) | (refine auC ?_) | (refine wc_cond rfl (fun hc => ?_) (fun hc => ?_)) | (refine wc_draw (by kernel_rfl) (by kernel_rfl) (by decide +kernel) ?_; intro w0 hw0 hm0; (try simp only [List.append_eq, List.cons_append, List.nil_append])) | (refine auP ?_) | ((refine auR ?_); clear hK K) | (refine auR ?_) | ((with_reducible refine hK _ _ ?_); clear hK K) | fail)
        first | refine end_ret (ResP.tmp rfl ResP.nil) ?_ | refine end_normal (ResP.tmp rfl ResP.nil) ?_
        first | rfl | (show _ = _; rfl) | (simp only [tupV, *]; done)
    · cases b16
      · cases b17
        all_goals (
          repeat' (first | (refine wlS ?_) | (refine wlB ?_) | ((with_reducible refine sel_call ?_); refine wl_rd rfl rfl (rd_call rfl rfl rfl (fun w hm => by with_reducible first | exact M16 w (VwT.out w hm) | exact M17 w (VwT.out w hm) | exact M13 w (VwT.out w hm) | exact M14 w (VwT.out w hm) | exact M15 w (VwT.out w hm))) ?_) | (refine wlE ?_) | (refine efSvao ?_; intro v oa ho) | (refine efBnn ?_; intro n hn) | (refine efB ?_) | (refine efBS ?_) | (refine wl_skip rfl rfl ?_) | ((with_reducible refine wc_seq ?_); intro K hK) | (refine auC ?_) | (refine wc_cond rfl (fun hc => ?_) (fun hc => ?_)) | (refine wc_draw (by kernel_rfl) (by kernel_rfl) (by decide +kernel) ?_; intro w0 hw0 hm0; (try simp only [List.append_eq, List.cons_append, List.nil_append])) | (refine auP ?_) | ((refine auR ?_); clear hK K) | (refine auR ?_) | ((with_reducible refine hK _ _ ?_); clear hK K) | fail))
        all_goals (
          first | refine end_ret (ResP.tmp rfl ResP.nil) ?_ | refine end_normal (ResP.tmp rfl ResP.nil) ?_
          first | rfl | (show _ = _; rfl) | (simp only [tupV, *]; done))
      · repeat' (first | (refine wlS ?_) | (refine wlB ?_) | ((with_reducible refine sel_call ?_); refine wl_rd rfl rfl (rd_call rfl rfl rfl (fun w hm => by with_reducible first | exact M16 w (VwT.out w hm) | exact M13 w (VwT.out w hm) | exact M14 w (VwT.out w hm) | exact M15 w (VwT.out w hm))) ?_) | (refine wlE ?_) | (refine efSvao ?_; intro v oa ho) | (refine efBnn ?_; intro n hn) | (refine efB ?_) | (refine efBS ?_) | (refine wl_skip rfl rfl ?_) | ((with_reducible refine wc_seq ?_); intro K hK) | (refine auC ?_) | (refine wc_cond rfl (fun hc => ?_) (fun hc => ?_)) | (refine wc_draw (by kernel_rfl) (by kernel_rfl) (by decide +kernel) ?_; intro w0 hw0 hm0; (try simp only [List.append_eq, List.cons_append, List.nil_append])) | (refine auP ?_) | ((refine auR ?_); clear hK K) | (refine auR ?_) | ((with_reducible refine hK _ _ ?_); clear hK K) | fail)
        first | refine end_ret (ResP.tmp rfl ResP.nil) ?_ | refine end_normal (ResP.tmp rfl ResP.nil) ?_
        first | rfl | (show _ = _; rfl) | (simp only [tupV, *]; done)
end Go.Proofs.Ytlpalhagndmpjaa.RuleSidesWalk
