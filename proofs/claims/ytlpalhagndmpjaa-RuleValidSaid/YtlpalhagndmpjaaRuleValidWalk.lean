/- RuleValid: the walk. (Printed by wip/genrule3.py.) -/
import Derived.Test.YtlpalhagndmpjaaJnAF
namespace Go.Proofs.Ytlpalhagndmpjaa.RuleValidWalk
open Go.RowKit
set_option linter.unusedVariables false
set_option linter.unusedSimpArgs false
set_option maxRecDepth 100000 in
set_option maxHeartbeats 16000000 in
theorem walk (w : World) {v tv : Value} {t : List Att} (h : Ats w v t) (loc : Bool) {l : List Tun} (hl : Tuns w tv l) : Calls Try.prog 11 [v, .bool loc, tv].toArray w (Ret (.bool true) w) := by
  haveI i0 := h.old
  haveI i1 := hl.cs.old
  have hbody := hl.body
  by_cases he : makeE (abs t) loc ≠ 0
  · have MB := fun w' (h : Ats w' v t) => make_bad w' (loc := loc) h he
    have t1 : (makeE (abs t) loc != 0) = true := by simpa using he
    have t2 : (makeE (abs t) loc == 0) = false := by simpa using he
    have t3 : (((0 : Nat) : Int) == 0) = true := rfl
    clear h hl hbody
    generalize makeE (abs t) loc = e at *
    refine fn_ret (N := _) Try.func11 rfl Try.ntmps11 Try.results11 (by simp) ?_
    simp only [initS, Nat.reduceAdd, Nat.zero_add]
    repeat' (first | (refine wlS ?_) | (refine wlB ?_) | ((with_reducible refine sel_call ?_); refine wl_rd rfl rfl (rd_call rfl rfl rfl (fun w hm => by with_reducible exact MB w (VwT.out w hm))) ?_) | (refine wlE ?_) | (refine efSvao ?_; intro v oa ho) | (refine efBnn ?_; intro n hn) | (refine efB ?_) | (refine efBS ?_) | (refine wl_skip rfl rfl ?_) | ((with_reducible refine wc_seq ?_); intro K hK) | (refine auC ?_) | (refine wc_cond rfl (fun hc => ?_) (fun hc => ?_)) | (refine wc_draw (by kernel_rfl) (by kernel_rfl) (by decide +kernel) ?_; intro w0 hw0 hm0; (try simp only [List.append_eq, List.cons_append, List.nil_append])) | (refine auP ?_) | ((refine auR ?_); clear hK K) | (refine auR ?_) | ((with_reducible refine hK _ _ ?_); clear hK K) | fail)
    first | refine end_ret (ResP.tmp rfl ResP.nil) ?_ | refine end_normal (ResP.tmp rfl ResP.nil) ?_
    first | rfl | (show _ = _; rfl) | (simp only [tupV, *]; done)
  have he' : makeE (abs t) loc = 0 := Decidable.of_not_not he
  have MG := fun w' (h : Ats w' v t) => make_good w' (loc := loc) h he'
  have hobj := Make.obj he'
  have t0 : ((0 : Int) != 0) = false := rfl
  have t00 : ((0 : Int) == 0) = true := rfl
  by_cases hbig : l.length > 40
  · have t1 : decide ((l.length : Int) > 40) = true := decide_eq_true (by omega)
    clear h hl hbody
    refine fn_ret (N := _) Try.func11 rfl Try.ntmps11 Try.results11 (by simp) ?_
    simp only [initS, Nat.reduceAdd, Nat.zero_add]
    repeat' (first | (refine wlS ?_) | (refine wlB ?_) | (refine wlE ?_) | (refine efSvao ?_; intro v oa ho) | ((with_reducible refine sel_call ?_); first | (refine wl_newO rfl rfl rfl rfl rfl (fun w hm => by with_reducible exact MG w (VwT.out w hm)) ?_; intro x oa hx)) | (refine efBnn ?_; intro n hn) | (refine efB ?_) | (refine efBS ?_) | (refine wl_skip rfl rfl ?_) | ((with_reducible refine wc_seq ?_); intro K hK) | (refine auC ?_) | (refine wc_cond rfl (fun hc => ?_) (fun hc => ?_)) | (refine wc_draw (by kernel_rfl) (by kernel_rfl) (by decide +kernel) ?_; intro w0 hw0 hm0; (try simp only [List.append_eq, List.cons_append, List.nil_append])) | (refine auP ?_) | ((refine auR ?_); clear hK K) | (refine auR ?_) | ((with_reducible refine hK _ _ ?_); clear hK K) | fail)
    first | refine end_ret (ResP.tmp rfl ResP.nil) ?_ | refine end_normal (ResP.tmp rfl ResP.nil) ?_
    first | rfl | (show _ = _; rfl) | (simp only [tupV, *]; done)
  have t1 : decide ((l.length : Int) > 40) = false := decide_eq_false (by omega)
  clear h hl he
  refine fn_ret (N := _) Try.func11 rfl Try.ntmps11 Try.results11 (by simp) ?_
  simp only [initS, Nat.reduceAdd, Nat.zero_add]
  repeat' (first | (refine wlS ?_) | (refine wlB ?_) | (refine wlE ?_) | (refine efSvao ?_; intro v oa ho) | ((with_reducible refine sel_call ?_); first | (refine wl_newO rfl rfl rfl rfl rfl (fun w hm => by with_reducible exact MG w (VwT.out w hm)) ?_; intro x oa hx)) | (refine efBnn ?_; intro n hn) | (refine efB ?_) | (refine efBS ?_) | (refine wl_skip rfl rfl ?_) | ((with_reducible refine wc_seq ?_); intro K hK) | (refine auC ?_) | (refine wc_cond rfl (fun hc => ?_) (fun hc => ?_)) | (refine auP ?_) | ((refine auR ?_); clear hK K) | (refine auR ?_) | ((with_reducible refine hK _ _ ?_); clear hK K) | fail)
  obtain ⟨u0, rfl⟩ : ∃ u0, u0 = x := ⟨x, rfl⟩
  obtain ⟨oM, rfl⟩ : ∃ oM, oM = oa := ⟨oa, rfl⟩
  obtain ⟨js, hoj, hjb⟩ := hx
  haveI hJ := hoj.atf
  haveI hJc := hJ.cs
  rw [← hjb] at hobj
  have hmt : matchB js t = true := by rw [match_abs, hjb]; exact Make.match_ he'
  have VJ := fun w' (h : Ats w' u0 js) => valid_c w' h (r := true) hobj.ok hobj.valid
  have MJ := fun w' (h : Ats w' u0 js) (h' : Ats w' v t) => (show Calls Try.prog 15 [u0, v].toArray w' (Ret (.bool true) w') by rw [← hmt]; exact match_c w' h h')
  clear he' hjb
  repeat' (first | (refine wlS ?_) | (refine wlB ?_) | ((with_reducible refine sel_call ?_); refine wl_rd rfl rfl (rd_call rfl rfl rfl (fun w hm => by with_reducible first | exact VJ w (VwT.out w hm) | exact MJ w (VwT.out w hm) (VwT.out w hm))) ?_) | (refine wlE ?_) | (refine efSvao ?_; intro v oa ho) | (refine efBnn ?_; intro n hn) | (refine efB ?_) | (refine efBS ?_) | (refine wl_skip rfl rfl ?_) | ((with_reducible refine wc_seq ?_); intro K hK) | (refine auC ?_) | (refine wc_cond rfl (fun hc => ?_) (fun hc => ?_)) | (refine auP ?_) | ((refine auR ?_); clear hK K) | (refine auR ?_) | ((with_reducible refine hK _ _ ?_); clear hK K) | fail)
  clear VJ MJ hmt
  refine wc_loop (σ := TnS) (fun x => [(2, tv), (7, x.v), (41, tv), (42, .int .i64 (l.length : Int)), (43, .int .i64 (x.i : Int))]) (fun x => x.ob) (TnS.Ok (abs js) l.length) (fun x => l.length - x.i) ⟨0, u0, js, oM⟩ ⟨Nat.zero_le _, hJ, hobj, fun k hk => rfl⟩ (Fits.of ⟨rfl, rfl, rfl, rfl, rfl, trivial⟩ (SubL.refl _) rfl) ?_
  clear MG
  rintro ⟨i, vo, its, ob⟩ hok
  have hok2 := hok
  obtain ⟨hi, hA, hO, hfx⟩ := hok2
  dsimp only at hi hA hO hfx ⊢
  haveI := hA.cs
  by_cases hlt : i < l.length
  · obtain ⟨⟨c, bv, ts⟩, hlx⟩ : ∃ x, l[i]? = some x := ⟨l[i]'(by omega), List.getElem?_eq_getElem _⟩
    have hget := tunsC_get hlx
    have hb := hbody _ (List.mem_of_getElem? hlx)
    dsimp only at hb hget
    obtain ⟨pb, cb, rfl, _⟩ := hb.cs.ln.out
    haveI i5 := hb.old
    have TD := fun w' (h1 : Ats w' vo its) (h2 : Ats w' (.slice pb ts.length cb) ts) => turned_c w' (c := c) hA hO h1 h2
    have u1 : decide ((i : Int) < (l.length : Int)) = true := decide_eq_true (by omega)
    have u2 : IntKind.i64.wrap ((i : Int) + 1) = ((i + 1 : Nat) : Int) := by rw [wrap_i64 _ (by omega) (by omega)]; omega
    have j1 : (i : Int) < (l.length : Int) := by omega
    repeat' (first | (refine wlS ?_) | (refine wlB ?_) | (refine wlE ?_) | (refine efSvao ?_; intro v oa ho) | (refine efZCnn ?_; intro n hn) | ((with_reducible refine sel_call ?_); first | (refine wl_newO rfl rfl rfl rfl rfl (fun w hm => by with_reducible exact TD w (VwT.out w hm) (VwT.out w hm)) ?_; intro x oa hx)) | (refine efBnn ?_; intro n hn) | (refine efB ?_) | (refine efBS ?_) | (refine wl_skip rfl rfl ?_) | ((with_reducible refine wc_seq ?_); intro K hK) | (refine auC ?_) | (refine wc_cond rfl (fun hc => ?_) (fun hc => ?_)) | (refine auP ?_) | ((refine auR ?_); clear hK K) | (refine auR ?_) | ((with_reducible refine hK _ _ ?_); clear hK K) | fail)
    obtain ⟨it2, hy, hst⟩ := hx
    obtain ⟨y, rfl⟩ : ∃ y, y = x := ⟨x, rfl⟩
    haveI := hy.cs
    have hO2 := hst.obj hO
    have hnx := hok.next hlt hy hst
    have hll : it2.length = its.length := by
      rcases hst with hs | hs
      · have := congrArg List.length hs
        rwa [abs_len, abs_len] at this
      · have := hs.len hO
        rwa [abs_len, abs_len] at this
    have VY := fun w' (h : Ats w' y it2) => valid_c w' h (r := true) hO2.ok hO2.valid
    have t7 : ((it2.length : Int) != (its.length : Int)) = false := by rw [hll]; simp
    by_cases hsm : (abs it2 == abs its) = true
    · have SA := fun w' (h : Ats w' y it2) (h' : Ats w' vo its) => sameA_c w' h h' hsm
      clear TD hok hst
      repeat' (first | (refine wlS ?_) | (refine wlB ?_) | ((with_reducible refine sel_call ?_); refine wl_rd rfl rfl (rd_call rfl rfl rfl (fun w hm => by with_reducible first | exact VY w (VwT.out w hm) | exact SA w (VwT.out w hm) (VwT.out w hm))) ?_) | (refine wlE ?_) | (refine efSvao ?_; intro v oa ho) | (refine efZCnn ?_; intro n hn) | (refine efBnn ?_; intro n hn) | (refine efB ?_) | (refine efBS ?_) | (refine wl_skip rfl rfl ?_) | ((with_reducible refine wc_seq ?_); intro K hK) | (refine auC ?_) | (refine wc_cond rfl (fun hc => ?_) (fun hc => ?_)) | (refine wc_draw (by kernel_rfl) (by kernel_rfl) (by decide +kernel) ?_; intro w0 hw0 hm0; (try simp only [List.append_eq, List.cons_append, List.nil_append])) | (refine auP ?_) | ((refine auR ?_); clear hK K) | (refine auR ?_) | ((with_reducible refine hK _ _ ?_); clear hK K) | fail)
      refine ⟨_, hnx, by dsimp only; omega, Fits.of ⟨rfl, rfl, rfl, rfl, rfl, trivial⟩ ?_ rfl⟩
      repeat (first | exact SubL.nil | exact SubL.refl _ | refine SubL.keep ?_ | exact SubL.headA _ _ | refine SubL.keepA ?_ _ | refine SubL.skip ?_ | refine SubL.skipA ?_ _)
    · have hsm' : (abs it2 == abs its) = false := by simpa using hsm
      have SA := fun w' (h : Ats w' y it2) (h' : Ats w' vo its) => sameA_c w' h h' hsm'
      have hmm : matchB it2 ts = true := by
        rcases hst with hs | hs
        · rw [hs] at hsm; simp at hsm
        · rw [match_abs]; exact hs.match_ hO
      have MM := fun w' (h : Ats w' y it2) (h' : Ats w' (.slice pb ts.length cb) ts) => (show Calls Try.prog 15 [y, .slice pb ts.length cb].toArray w' (Ret (.bool true) w') by rw [← hmm]; exact match_c w' h h')
      clear TD hok hst
      repeat' (first | (refine wlS ?_) | (refine wlB ?_) | ((with_reducible refine sel_call ?_); refine wl_rd rfl rfl (rd_call rfl rfl rfl (fun w hm => by with_reducible first | exact VY w (VwT.out w hm) | exact SA w (VwT.out w hm) (VwT.out w hm) | exact MM w (VwT.out w hm) (VwT.out w hm))) ?_) | (refine wlE ?_) | (refine efSvao ?_; intro v oa ho) | (refine efZCnn ?_; intro n hn) | (refine efBnn ?_; intro n hn) | (refine efB ?_) | (refine efBS ?_) | (refine wl_skip rfl rfl ?_) | ((with_reducible refine wc_seq ?_); intro K hK) | (refine auC ?_) | (refine wc_cond rfl (fun hc => ?_) (fun hc => ?_)) | (refine wc_draw (by kernel_rfl) (by kernel_rfl) (by decide +kernel) ?_; intro w0 hw0 hm0; (try simp only [List.append_eq, List.cons_append, List.nil_append])) | (refine auP ?_) | ((refine auR ?_); clear hK K) | (refine auR ?_) | ((with_reducible refine hK _ _ ?_); clear hK K) | fail)
      refine ⟨_, hnx, by dsimp only; omega, Fits.of ⟨rfl, rfl, rfl, rfl, rfl, trivial⟩ ?_ rfl⟩
      repeat (first | exact SubL.nil | exact SubL.refl _ | refine SubL.keep ?_ | exact SubL.headA _ _ | refine SubL.keepA ?_ _ | refine SubL.skip ?_ | refine SubL.skipA ?_ _)
  · obtain rfl : i = l.length := by omega
    have u1 : decide ((l.length : Int) < (l.length : Int)) = false := decide_eq_false (by omega)
    repeat' (first | (refine wlS ?_) | (refine wlB ?_) | (refine wlE ?_) | (refine efSvao ?_; intro v oa ho) | (refine efBnn ?_; intro n hn) | (refine efB ?_) | (refine efBS ?_) | (refine wl_skip rfl rfl ?_) | ((with_reducible refine wc_seq ?_); intro K hK) | (refine auC ?_) | (refine wc_cond rfl (fun hc => ?_) (fun hc => ?_)) | (refine wc_draw (by kernel_rfl) (by kernel_rfl) (by decide +kernel) ?_; intro w0 hw0 hm0; (try simp only [List.append_eq, List.cons_append, List.nil_append])) | (refine auP ?_) | ((refine auR ?_); clear hK K) | (refine auR ?_) | ((with_reducible refine hK _ _ ?_); clear hK K) | fail)
    first | refine end_ret (ResP.tmp rfl ResP.nil) ?_ | refine end_normal (ResP.tmp rfl ResP.nil) ?_
    first | rfl | (show _ = _; rfl) | (simp only [tupV, *]; done)
end Go.Proofs.Ytlpalhagndmpjaa.RuleValidWalk
