/- RuleFixed: the walk. (Printed by wip/genrule3.py.) -/
import Derived.Test.YtlpalhagndmpjaaJnAF
namespace Go.Proofs.Ytlpalhagndmpjaa.RuleFixedWalk
open Go.RowKit
set_option linter.unusedVariables false
set_option linter.unusedSimpArgs false
set_option maxRecDepth 100000 in
set_option maxHeartbeats 16000000 in
theorem walk (w : World) {v tv : Value} {t : List Att} (h : Ats w v t) (loc : Bool) {l : List Tun} (hl : Tuns w tv l) : Calls Try.prog 9 [v, .bool loc, tv].toArray w (Ret (.bool true) w) := by
  haveI i0 := h.old
  haveI i1 := hl.cs.old
  have hbody := hl.body
  have RU := rules_c
  by_cases he : makeE (abs t) loc ≠ 0
  · have MB := fun w' (h : Ats w' v t) => make_bad w' (loc := loc) h he
    have t1 : (makeE (abs t) loc != 0) = true := by simpa using he
    have t2 : (makeE (abs t) loc == 0) = false := by simpa using he
    have t3 : (((0 : Nat) : Int) == 0) = true := rfl
    clear h hl hbody
    generalize makeE (abs t) loc = e at *
    refine fn_ret (N := _) Try.func9 rfl Try.ntmps9 Try.results9 (by simp) ?_
    simp only [initS, Nat.reduceAdd, Nat.zero_add]
    repeat' (first | (refine wlS ?_) | (refine wlB ?_) | ((with_reducible refine sel_call ?_); refine wl_rd rfl rfl (rd_call rfl rfl rfl (fun w hm => by with_reducible first | exact RU w | exact MB w (VwT.out w hm))) ?_) | (refine wlE ?_) | (refine efSvao ?_; intro v oa ho) | (refine efBnn ?_; intro n hn) | (refine efB ?_) | (refine efBS ?_) | (refine wl_skip rfl rfl ?_) | ((with_reducible refine wc_seq ?_); intro K hK) | (refine auC ?_) | (refine wc_cond rfl (fun hc => ?_) (fun hc => ?_)) | (refine wc_draw (by kernel_rfl) (by kernel_rfl) (by decide +kernel) ?_; intro w0 hw0 hm0; (try simp only [List.append_eq, List.cons_append, List.nil_append])) | (refine auP ?_) | ((refine auR ?_); clear hK K) | (refine auR ?_) | ((with_reducible refine hK _ _ ?_); clear hK K) | fail)
    first | refine end_ret (ResP.tmp rfl ResP.nil) ?_ | refine end_normal (ResP.tmp rfl ResP.nil) ?_
    first | rfl | (show _ = _; rfl) | (simp only [tupV, *]; done)
  have he' : makeE (abs t) loc = 0 := Decidable.of_not_not he
  have MG := fun w' (h : Ats w' v t) => make_good w' (loc := loc) h he'
  have hobj := Make.obj he'
  have t0 : ((0 : Int) != 0) = false := rfl
  have t00 : ((0 : Int) == 0) = true := rfl
  by_cases hbig : l.length > 40
  · have t1 : decide ((l.length : Int) > 40) = true := decide_eq_true (by omega)
    clear h hl hbody
    refine fn_ret (N := _) Try.func9 rfl Try.ntmps9 Try.results9 (by simp) ?_
    simp only [initS, Nat.reduceAdd, Nat.zero_add]
    repeat' (first | (refine wlS ?_) | (refine wlB ?_) | ((with_reducible refine sel_call ?_); refine wl_rd rfl rfl (rd_call rfl rfl rfl (fun w hm => by with_reducible exact RU w)) ?_) | (refine wlE ?_) | (refine efSvao ?_; intro v oa ho) | ((with_reducible refine sel_call ?_); first | (refine wl_newO rfl rfl rfl rfl rfl (fun w hm => by with_reducible exact MG w (VwT.out w hm)) ?_; intro x oa hx)) | (refine efBnn ?_; intro n hn) | (refine efB ?_) | (refine efBS ?_) | (refine wl_skip rfl rfl ?_) | ((with_reducible refine wc_seq ?_); intro K hK) | (refine auC ?_) | (refine wc_cond rfl (fun hc => ?_) (fun hc => ?_)) | (refine wc_draw (by kernel_rfl) (by kernel_rfl) (by decide +kernel) ?_; intro w0 hw0 hm0; (try simp only [List.append_eq, List.cons_append, List.nil_append])) | (refine auP ?_) | ((refine auR ?_); clear hK K) | (refine auR ?_) | ((with_reducible refine hK _ _ ?_); clear hK K) | fail)
    first | refine end_ret (ResP.tmp rfl ResP.nil) ?_ | refine end_normal (ResP.tmp rfl ResP.nil) ?_
    first | rfl | (show _ = _; rfl) | (simp only [tupV, *]; done)
  have t1 : decide ((l.length : Int) > 40) = false := decide_eq_false (by omega)
  clear h hl he
  refine fn_ret (N := _) Try.func9 rfl Try.ntmps9 Try.results9 (by simp) ?_
  simp only [initS, Nat.reduceAdd, Nat.zero_add]
  repeat' (first | (refine wlS ?_) | (refine wlB ?_) | ((with_reducible refine sel_call ?_); refine wl_rd rfl rfl (rd_call rfl rfl rfl (fun w hm => by with_reducible exact RU w)) ?_) | (refine wlE ?_) | (refine efSvao ?_; intro v oa ho) | ((with_reducible refine sel_call ?_); first | (refine wl_newO rfl rfl rfl rfl rfl (fun w hm => by with_reducible exact MG w (VwT.out w hm)) ?_; intro x oa hx)) | (refine efBnn ?_; intro n hn) | (refine efB ?_) | (refine efBS ?_) | (refine wl_skip rfl rfl ?_) | ((with_reducible refine wc_seq ?_); intro K hK) | (refine auC ?_) | (refine wc_cond rfl (fun hc => ?_) (fun hc => ?_)) | (refine auP ?_) | ((refine auR ?_); clear hK K) | (refine auR ?_) | ((with_reducible refine hK _ _ ?_); clear hK K) | fail)
  obtain ⟨u0, rfl⟩ : ∃ u0, u0 = x := ⟨x, rfl⟩
  obtain ⟨oM, rfl⟩ : ∃ oM, oM = oa := ⟨oa, rfl⟩
  obtain ⟨js, hoj, hjb⟩ := hx
  haveI hJ := hoj.atf
  haveI hJc := hJ.cs
  rw [← hjb] at hobj
  repeat' (first | (refine wlS ?_) | (refine wlB ?_) | (refine wlE ?_) | (refine efSvao ?_; intro v oa ho) | (refine efBnn ?_; intro n hn) | (refine efB ?_) | (refine efBS ?_) | (refine wl_skip rfl rfl ?_) | ((with_reducible refine wc_seq ?_); intro K hK) | (refine auC ?_) | (refine wc_cond rfl (fun hc => ?_) (fun hc => ?_)) | (refine auP ?_) | ((refine auR ?_); clear hK K) | (refine auR ?_) | ((with_reducible refine hK _ _ ?_); clear hK K) | fail)
  refine wc_loop (σ := TnS) (fun x => [(2, tv), (7, u0), (9, x.v), (41, tv), (42, .int .i64 (l.length : Int)), (43, .int .i64 (x.i : Int))]) (fun x => oM ++ x.ob) (fun x => TnS.Ok (abs js) l.length ⟨x.i, x.v, x.its, oM ++ x.ob⟩) (fun x => l.length - x.i) ⟨0, u0, js, []⟩ (by rw [List.append_nil]; exact ⟨Nat.zero_le _, hJ, hobj, fun k hk => rfl⟩) (Fits.of ⟨rfl, rfl, rfl, rfl, rfl, rfl, trivial⟩ (by rw [List.append_nil]; exact SubL.refl _) rfl) ?_
  clear MG
  rintro ⟨i, vo, its, ob⟩ hok
  have hok2 := hok
  obtain ⟨hi, hA, hO, hfx⟩ := hok2
  dsimp only at hi hA hO hfx ⊢
  haveI := hA.cs
  by_cases hlt : i < l.length
  · obtain ⟨⟨c, bv, ts⟩, hlx⟩ : ∃ x, l[i]? = some x := ⟨l[i]'(by omega), List.getElem?_eq_getElem _⟩
    have hget := tunsC_get hlx
    have hb := hbody _ (List.mem_of_getElem? hlx)
    dsimp only at hb hget
    obtain ⟨pb, cb, rfl, _⟩ := hb.cs.ln.out
    haveI i5 := hb.old
    have TD := fun w' (h1 : Ats w' vo its) (h2 : Ats w' (.slice pb ts.length cb) ts) => turned_c w' (c := c) hA hO h1 h2
    have u1 : decide ((i : Int) < (l.length : Int)) = true := decide_eq_true (by omega)
    have u2 : IntKind.i64.wrap ((i : Int) + 1) = ((i + 1 : Nat) : Int) := by rw [wrap_i64 _ (by omega) (by omega)]; omega
    have j1 : (i : Int) < (l.length : Int) := by omega
    repeat' (first | (refine wlS ?_) | (refine wlB ?_) | (refine wlE ?_) | (refine efSvao ?_; intro v oa ho) | (refine efZCnn ?_; intro n hn) | ((with_reducible refine sel_call ?_); first | (refine wl_newO rfl rfl rfl rfl rfl (fun w hm => by with_reducible exact TD w (VwT.out w hm) (VwT.out w hm)) ?_; intro x oa hx)) | (refine efBnn ?_; intro n hn) | (refine efB ?_) | (refine efBS ?_) | (refine wl_skip rfl rfl ?_) | ((with_reducible refine wc_seq ?_); intro K hK) | (refine auC ?_) | (refine wc_cond rfl (fun hc => ?_) (fun hc => ?_)) | (refine auP ?_) | ((refine auR ?_); clear hK K) | (refine auR ?_) | ((with_reducible refine hK _ _ ?_); clear hK K) | fail)
    obtain ⟨it2, hy, hst⟩ := hx
    refine ⟨⟨i + 1, x, it2, ob ++ oa⟩, by
      have := hok.next hlt hy hst
      rw [List.append_assoc] at this
      exact this, by dsimp only; omega, Fits.of ⟨rfl, rfl, rfl, rfl, rfl, rfl, trivial⟩ ?_ rfl⟩
    repeat (first | exact SubL.nil | exact SubL.refl _ | refine SubL.keep ?_ | exact SubL.headA _ _ | refine SubL.keepA ?_ _ | refine SubL.skip ?_ | refine SubL.skipA ?_ _)
  · obtain rfl : i = l.length := by omega
    have u1 : decide ((l.length : Int) < (l.length : Int)) = false := decide_eq_false (by omega)
    have hso := valid_sound hO.valid
    obtain ⟨b10, h10⟩ : ∃ b, isA (abs its) 10 = b := ⟨_, rfl⟩
    obtain ⟨b8, h8⟩ : ∃ b, isA (abs its) 8 = b := ⟨_, rfl⟩
    obtain ⟨b11, h11⟩ : ∃ b, isA (abs its) 11 = b := ⟨_, rfl⟩
    obtain ⟨b9, h9⟩ : ∃ b, isA (abs its) 9 = b := ⟨_, rfl⟩
    have hc1 : b10 = false ∨ (b10 = true ∧ b8 = true) := by
      unfold soundB at hso
      rw [h10, h8, h11, h9] at hso
      simp only [Bool.and_eq_true] at hso
      have h3 := hso.1.1
      cases b10 <;> cases b8 <;> simp_all
    have hc2 : b11 = false ∨ (b11 = true ∧ b9 = false) := by
      unfold soundB at hso
      rw [h10, h8, h11, h9] at hso
      simp only [Bool.and_eq_true] at hso
      have h3 := hso.1.2
      cases b11 <;> cases b9 <;> simp_all
    have I10 := fun w' (h : Ats w' vo its) => is_c w' h h10
    have I8 := fun w' (h : Ats w' vo its) => is_c w' h h8
    have I11 := fun w' (h : Ats w' vo its) => is_c w' h h11
    have I9 := fun w' (h : Ats w' vo its) => is_c w' h h9
    have BE := fun w' {v u : Value} {n m : Nat} {p q : List Nat} {r : Bool} (hv : Cb w' v n p) (hu : Cb w' u m q) (h : (p == q) = r) => beq_r w' hv hu h
    clear hso h10 h8 h11 h9 hok hbody
    haveI hA2 : AtF (Hd (oM ++ ob)) vo its := hA
    repeat' (first | (refine wlS ?_) | (refine wlB ?_) | (refine wlE ?_) | (refine efSvao ?_; intro v oa ho) | (refine efBnn ?_; intro n hn) | (refine efB ?_) | (refine efBS ?_) | (refine wl_skip rfl rfl ?_) | ((with_reducible refine wc_seq ?_); intro K hK) | (refine auC ?_) | (refine wc_cond rfl (fun hc => ?_) (fun hc => ?_)) | (refine wc_draw (by kernel_rfl) (by kernel_rfl) (by decide +kernel) ?_; intro w0 hw0 hm0; (try simp only [List.append_eq, List.cons_append, List.nil_append])) | (refine auP ?_) | ((refine auR ?_); clear hK K) | (refine auR ?_) | ((with_reducible refine hK _ _ ?_); clear hK K) | fail)
    refine wc_loop (σ := Nat) (fun i => [(7, u0), (9, vo), (51, v), (52, .int .i64 5), (53, .int .i64 (i : Int))]) (fun _ => oM ++ (ob ++ oa)) (fun i => i ≤ 5) (fun i => 5 - i) 0 (Nat.zero_le _) (Fits.of ⟨rfl, rfl, rfl, rfl, rfl, trivial⟩ ?_ rfl) ?_
    · repeat (first | exact SubL.nil | exact SubL.refl _ | refine SubL.keep ?_ | exact SubL.headA _ _ | refine SubL.keepA ?_ _ | refine SubL.skip ?_ | refine SubL.skipA ?_ _)
    intro j hj
    by_cases hj5 : j < 5
    · have v1 : decide ((j : Int) < 5) = true := decide_eq_true (by omega)
      have v2 : IntKind.i64.wrap ((j : Int) + 1) = ((j + 1 : Nat) : Int) := by rw [wrap_i64 _ (by omega) (by omega)]; omega
      have j5 : (j : Int) < ((5 : Nat) : Int) := by omega
      obtain ⟨k, hk, hkk⟩ : ∃ k : Int, ([Value.int .i64 1, .int .i64 4, .int .i64 12, .int .i64 10, .int .i64 11] : List Value)[j]? = some (.int .i64 k) ∧ (k = 1 ∨ k = 4 ∨ k = 10 ∨ k = 11 ∨ k = 12) := by
        match j, hj5 with
        | 0, _ => exact ⟨1, rfl, .inl rfl⟩
        | 1, _ => exact ⟨4, rfl, .inr (.inl rfl)⟩
        | 2, _ => exact ⟨12, rfl, .inr (.inr (.inr (.inr rfl)))⟩
        | 3, _ => exact ⟨10, rfl, .inr (.inr (.inl rfl))⟩
        | 4, _ => exact ⟨11, rfl, .inr (.inr (.inr (.inl rfl)))⟩
      have hge := hfx k hkk
      clear hfx I10 I8 I11 I9 hkk hc1 hc2
      cases hg : getA (abs js) k with
      | none =>
        rw [hg] at hge
        have G1 := fun w' (h : Ats w' u0 js) => get_no w' h hg
        have G2 := fun w' (h : Ats w' vo its) => get_no w' h hge
        have tb : (([] : List Nat) == []) = true := rfl
        have v3 : (false != false) = false := rfl
        repeat' (first | (refine wlS ?_) | (refine wlB ?_) | (refine wlNB ?_) | ((with_reducible refine sel_call ?_); refine wl_rd rfl rfl (rd_call rfl rfl rfl (fun w hm => by with_reducible first | exact G1 w (VwT.out w hm) | exact G2 w (VwT.out w hm) | exact BE w (VwB.out w hm) (VwB.out w hm) (by with_reducible assumption))) ?_) | (refine wlE ?_) | (refine efSvao ?_; intro v oa ho) | (refine efBnn ?_; intro n hn) | (refine efB ?_) | (refine efBS ?_) | (refine wl_skip rfl rfl ?_) | ((with_reducible refine wc_seq ?_); intro K hK) | (refine auC ?_) | (refine wc_cond rfl (fun hc => ?_) (fun hc => ?_)) | (refine wc_draw (by kernel_rfl) (by kernel_rfl) (by decide +kernel) ?_; intro w0 hw0 hm0; (try simp only [List.append_eq, List.cons_append, List.nil_append])) | (refine auP ?_) | ((refine auR ?_); clear hK K) | (refine auR ?_) | ((with_reducible refine hK _ _ ?_); clear hK K) | fail)
        refine ⟨j + 1, hj5, by omega, Fits.of ⟨rfl, rfl, rfl, rfl, rfl, trivial⟩ ?_ rfl⟩
        repeat (first | exact SubL.nil | exact SubL.refl _ | refine SubL.keep ?_ | exact SubL.headA _ _ | refine SubL.keepA ?_ _ | refine SubL.skip ?_ | refine SubL.skipA ?_ _)
      | some q =>
        rw [hg] at hge
        have G1 := fun w' (h : Ats w' u0 js) => get_yesA w' h hobj.ok hg
        have G2 := fun w' (h : Ats w' vo its) => get_yesA w' h hO.ok hge
        have tb : (q == q) = true := by simp
        have v3 : (true != true) = false := rfl
        repeat' (first | (refine wlS ?_) | (refine wlB ?_) | (refine wlNB ?_) | ((with_reducible refine sel_call ?_); refine wl_rd rfl rfl (rd_call rfl rfl rfl (fun w hm => by with_reducible exact BE w (VwB.out w hm) (VwB.out w hm) (by with_reducible assumption))) ?_) | (refine wlE ?_) | (refine efSvao ?_; intro v oa ho) | ((with_reducible refine sel_call ?_); first | (refine wl_newO rfl rfl rfl rfl rfl (fun w hm => by with_reducible exact G1 w (VwT.out w hm)) ?_; intro x oa hx) | (refine wl_newO rfl rfl rfl rfl rfl (fun w hm => by with_reducible exact G2 w (VwT.out w hm)) ?_; intro x oa hx)) | (refine efBnn ?_; intro n hn) | (refine efB ?_) | (refine efBS ?_) | (refine wl_skip rfl rfl ?_) | ((with_reducible refine wc_seq ?_); intro K hK) | (refine auC ?_) | (refine wc_cond rfl (fun hc => ?_) (fun hc => ?_)) | (refine wc_draw (by kernel_rfl) (by kernel_rfl) (by decide +kernel) ?_; intro w0 hw0 hm0; (try simp only [List.append_eq, List.cons_append, List.nil_append])) | (refine auP ?_) | ((refine auR ?_); clear hK K) | (refine auR ?_) | ((with_reducible refine hK _ _ ?_); clear hK K) | fail)
        refine ⟨j + 1, hj5, by omega, Fits.of ⟨rfl, rfl, rfl, rfl, rfl, trivial⟩ ?_ rfl⟩
        repeat (first | exact SubL.nil | exact SubL.refl _ | refine SubL.keep ?_ | exact SubL.headA _ _ | refine SubL.keepA ?_ _ | refine SubL.skip ?_ | refine SubL.skipA ?_ _)
    · obtain rfl : j = 5 := by omega
      have v1 : decide (((5 : Nat) : Int) < 5) = false := by decide
      clear BE hfx
      rcases hc1 with rfl | ⟨rfl, rfl⟩
      all_goals rcases hc2 with rfl | ⟨rfl, rfl⟩
      all_goals (
        repeat' (first | (refine wlS ?_) | (refine wlB ?_) | ((with_reducible refine sel_call ?_); refine wl_rd rfl rfl (rd_call rfl rfl rfl (fun w hm => by with_reducible first | exact I10 w (VwT.out w hm) | exact I8 w (VwT.out w hm) | exact I11 w (VwT.out w hm) | exact I9 w (VwT.out w hm))) ?_) | (refine wlE ?_) | (refine efSvao ?_; intro v oa ho) | (refine efBnn ?_; intro n hn) | (refine efB ?_) | (refine efBS ?_) | (refine wl_skip rfl rfl ?_) | ((with_reducible refine wc_seq ?_); intro K hK) | (refine auC ?_) | (refine wc_cond rfl (fun hc => ?_) (fun hc => ?_)) | (refine wc_draw (by kernel_rfl) (by kernel_rfl) (by decide +kernel) ?_; intro w0 hw0 hm0; (try simp only [List.append_eq, List.cons_append, List.nil_append])) | (refine auP ?_) | ((refine auR ?_); clear hK K) | (refine auR ?_) | ((with_reducible refine hK _ _ ?_); clear hK K) | fail))
      all_goals (
        first | refine end_ret (ResP.tmp rfl ResP.nil) ?_ | refine end_normal (ResP.tmp rfl ResP.nil) ?_
        first | rfl | (show _ = _; rfl) | (simp only [tupV, *]; done))
end Go.Proofs.Ytlpalhagndmpjaa.RuleFixedWalk
