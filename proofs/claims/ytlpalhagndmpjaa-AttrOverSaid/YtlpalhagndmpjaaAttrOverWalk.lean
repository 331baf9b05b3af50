/- AttrOver: the walk. -/
import Derived.Test.YtlpalhagndmpjaaJnAD
import Derived.Test.YtlpalhagndmpjaaJnAB
namespace Go.Proofs.Ytlpalhagndmpjaa
theorem over_norm {a l t : List Ab} (_ : AbOk l) (_ : AbOk t) (h : IsNorm a (overA l t)) (k : Int) : getA a k = (getA t k).or (getA l k) := by
  rw [h.get, getA_over]
end Go.Proofs.Ytlpalhagndmpjaa
namespace Go.Proofs.Ytlpalhagndmpjaa.AttrOverWalk
open Go.RowKit
set_option linter.unusedVariables false
set_option linter.unusedSimpArgs false
set_option maxRecDepth 100000 in
set_option maxHeartbeats 16000000 in
theorem walk (w : World) {vl vm vn : Value} {l m n : List Att} (hl : Ats w vl l) (hm : Ats w vm m) (hn : Ats w vn n) : Calls Try.prog 4 [vl, vm, vn].toArray w (Ret (.bool true) w) := by
  haveI i0 := hl.old
  haveI i1 := hm.old
  haveI i2 := hn.old
  haveI i3 := hl.cs.old
  have CL := fun w' (h : Ats w' vl l) => check_a w' h
  have CM := fun w' (h : Ats w' vm m) => check_a w' h
  have CN := fun w' (h : Ats w' vn n) => check_a w' h
  by_cases c1 : chkA (abs l) ≠ 0
  · have t1 : (chkA (abs l) != 0) = true := by simpa using c1
    clear hl hm hn
    refine fn_ret (N := _) Try.func4 rfl Try.ntmps4 Try.results4 (by simp) ?_
    simp only [initS, Nat.reduceAdd, Nat.zero_add]
    repeat' (first | (refine wlS ?_) | (refine wlB ?_) | ((with_reducible refine sel_call ?_); refine wl_rd rfl rfl (rd_call rfl rfl rfl (fun w hm => by with_reducible exact CL w (VwT.out w hm))) ?_) | (refine wlE ?_) | (refine efSvao ?_; intro v oa ho) | (refine efBnn ?_; intro n hn) | (refine efB ?_) | (refine efBS ?_) | (refine wl_skip rfl rfl ?_) | ((with_reducible refine wc_seq ?_); intro K hK) | (refine auC ?_) | (refine wc_cond rfl (fun hc => ?_) (fun hc => ?_)) | (refine wc_draw (by kernel_rfl) (by kernel_rfl) (by decide +kernel) ?_; intro w0 hw0 hm0; (try simp only [List.append_eq, List.cons_append, List.nil_append])) | (refine auP ?_) | ((refine auR ?_); clear hK K) | (refine auR ?_) | ((with_reducible refine hK _ _ ?_); clear hK K) | fail)
    first | refine end_ret (ResP.tmp rfl ResP.nil) ?_ | refine end_normal (ResP.tmp rfl ResP.nil) ?_
    first | rfl | (show _ = _; rfl) | (simp only [tupV, *]; done)
  have c1' : chkA (abs l) = 0 := Decidable.of_not_not c1
  rw [c1'] at CL
  have t0 : ((0 : Int) != 0) = false := rfl
  by_cases c2 : chkA (abs m) ≠ 0
  · have t1 : (chkA (abs m) != 0) = true := by simpa using c2
    clear hl hm hn
    refine fn_ret (N := _) Try.func4 rfl Try.ntmps4 Try.results4 (by simp) ?_
    simp only [initS, Nat.reduceAdd, Nat.zero_add]
    repeat' (first | (refine wlS ?_) | (refine wlB ?_) | ((with_reducible refine sel_call ?_); refine wl_rd rfl rfl (rd_call rfl rfl rfl (fun w hm => by with_reducible first | exact CL w (VwT.out w hm) | exact CM w (VwT.out w hm))) ?_) | (refine wlE ?_) | (refine efSvao ?_; intro v oa ho) | (refine efBnn ?_; intro n hn) | (refine efB ?_) | (refine efBS ?_) | (refine wl_skip rfl rfl ?_) | ((with_reducible refine wc_seq ?_); intro K hK) | (refine auC ?_) | (refine wc_cond rfl (fun hc => ?_) (fun hc => ?_)) | (refine wc_draw (by kernel_rfl) (by kernel_rfl) (by decide +kernel) ?_; intro w0 hw0 hm0; (try simp only [List.append_eq, List.cons_append, List.nil_append])) | (refine auP ?_) | ((refine auR ?_); clear hK K) | (refine auR ?_) | ((with_reducible refine hK _ _ ?_); clear hK K) | fail)
    first | refine end_ret (ResP.tmp rfl ResP.nil) ?_ | refine end_normal (ResP.tmp rfl ResP.nil) ?_
    first | rfl | (show _ = _; rfl) | (simp only [tupV, *]; done)
  have c2' : chkA (abs m) = 0 := Decidable.of_not_not c2
  rw [c2'] at CM
  by_cases c3 : chkA (abs n) ≠ 0
  · have t1 : (chkA (abs n) != 0) = true := by simpa using c3
    clear hl hm hn
    refine fn_ret (N := _) Try.func4 rfl Try.ntmps4 Try.results4 (by simp) ?_
    simp only [initS, Nat.reduceAdd, Nat.zero_add]
    repeat' (first | (refine wlS ?_) | (refine wlB ?_) | ((with_reducible refine sel_call ?_); refine wl_rd rfl rfl (rd_call rfl rfl rfl (fun w hm => by with_reducible first | exact CL w (VwT.out w hm) | exact CM w (VwT.out w hm) | exact CN w (VwT.out w hm))) ?_) | (refine wlE ?_) | (refine efSvao ?_; intro v oa ho) | (refine efBnn ?_; intro n hn) | (refine efB ?_) | (refine efBS ?_) | (refine wl_skip rfl rfl ?_) | ((with_reducible refine wc_seq ?_); intro K hK) | (refine auC ?_) | (refine wc_cond rfl (fun hc => ?_) (fun hc => ?_)) | (refine wc_draw (by kernel_rfl) (by kernel_rfl) (by decide +kernel) ?_; intro w0 hw0 hm0; (try simp only [List.append_eq, List.cons_append, List.nil_append])) | (refine auP ?_) | ((refine auR ?_); clear hK K) | (refine auR ?_) | ((with_reducible refine hK _ _ ?_); clear hK K) | fail)
    first | refine end_ret (ResP.tmp rfl ResP.nil) ?_ | refine end_normal (ResP.tmp rfl ResP.nil) ?_
    first | rfl | (show _ = _; rfl) | (simp only [tupV, *]; done)
  have c3' : chkA (abs n) = 0 := Decidable.of_not_not c3
  rw [c3'] at CN
  have kl := chkA_zero.1 c1'
  have km := chkA_zero.1 c2'
  have kn := chkA_zero.1 c3'
  have hll : l.length ≤ 24 := by have := kl.len; rwa [abs_len] at this
  have hbl := hl.bodF
  have h1l := ats_one hl
  have OA := fun w' (h : Ats w' vl l) (h' : Ats w' vm m) => over_yes w' h h' kl km
  have OC := fun w' (h : Ats w' vm m) (h' : Ats w' vn n) => over_yes w' h h' km kn
  have OI := fun w' (h : Ats w' vl l) (h' : Ats w' vl l) => over_yes w' h h' kl kl
  have NL := fun w' (h : Ats w' vl l) => norm_ok w' h kl
  clear hl hm hn c1 c2 c3
  refine fn_ret (N := _) Try.func4 rfl Try.ntmps4 Try.results4 (by simp) ?_
  simp only [initS, Nat.reduceAdd, Nat.zero_add]
  repeat' (first | (refine wlS ?_) | (refine wlB ?_) | ((with_reducible refine sel_call ?_); refine wl_rd rfl rfl (rd_call rfl rfl rfl (fun w hm => by with_reducible first | exact CL w (VwT.out w hm) | exact CM w (VwT.out w hm) | exact CN w (VwT.out w hm))) ?_) | (refine wlE ?_) | (refine efSvao ?_; intro v oa ho) | ((with_reducible refine sel_call ?_); first | (refine wl_newO rfl rfl rfl rfl rfl (fun w hm => by with_reducible exact OA w (VwT.out w hm) (VwT.out w hm)) ?_; intro x oa hx)) | (refine efBnn ?_; intro n hn) | (refine efB ?_) | (refine efBS ?_) | (refine wl_skip rfl rfl ?_) | ((with_reducible refine wc_seq ?_); intro K hK) | (refine auC ?_) | (refine wc_cond rfl (fun hc => ?_) (fun hc => ?_)) | (refine wc_draw (by kernel_rfl) (by kernel_rfl) (by decide +kernel) ?_; intro w0 hw0 hm0; (try simp only [List.append_eq, List.cons_append, List.nil_append])) | (refine auP ?_) | ((refine auR ?_); clear hK K) | (refine auR ?_) | ((with_reducible refine hK _ _ ?_); clear hK K) | fail)
  obtain ⟨ua, rfl⟩ : ∃ u, u = x := ⟨x, rfl⟩
  obtain ⟨oA, rfl⟩ : ∃ u, u = oa := ⟨oa, rfl⟩
  obtain ⟨als, hoA, hnA⟩ := hx
  haveI hA := hoA.atf
  have ka := norm_okA (over_ok kl km) hnA
  have OB := fun w' (h : Ats w' ua als) (h' : Ats w' vn n) => over_yes w' h h' ka kn
  clear CL CM CN OA
  repeat' (first | (refine wlS ?_) | (refine wlB ?_) | (refine wlE ?_) | (refine efSvao ?_; intro v oa ho) | ((with_reducible refine sel_call ?_); first | (refine wl_newO rfl rfl rfl rfl rfl (fun w hm => by with_reducible exact OB w (VwT.out w hm) (VwT.out w hm)) ?_; intro x oa hx)) | (refine efBnn ?_; intro n hn) | (refine efB ?_) | (refine efBS ?_) | (refine wl_skip rfl rfl ?_) | ((with_reducible refine wc_seq ?_); intro K hK) | (refine auC ?_) | (refine wc_cond rfl (fun hc => ?_) (fun hc => ?_)) | (refine wc_draw (by kernel_rfl) (by kernel_rfl) (by decide +kernel) ?_; intro w0 hw0 hm0; (try simp only [List.append_eq, List.cons_append, List.nil_append])) | (refine auP ?_) | ((refine auR ?_); clear hK K) | (refine auR ?_) | ((with_reducible refine hK _ _ ?_); clear hK K) | fail)
  obtain ⟨ub, rfl⟩ : ∃ u, u = x := ⟨x, rfl⟩
  obtain ⟨oB, rfl⟩ : ∃ u, u = oa := ⟨oa, rfl⟩
  obtain ⟨bs, hoB, hnB⟩ := hx
  haveI hB := hoB.atf
  clear OB
  repeat' (first | (refine wlS ?_) | (refine wlB ?_) | (refine wlE ?_) | (refine efSvao ?_; intro v oa ho) | ((with_reducible refine sel_call ?_); first | (refine wl_newO rfl rfl rfl rfl rfl (fun w hm => by with_reducible exact OC w (VwT.out w hm) (VwT.out w hm)) ?_; intro x oa hx)) | (refine efBnn ?_; intro n hn) | (refine efB ?_) | (refine efBS ?_) | (refine wl_skip rfl rfl ?_) | ((with_reducible refine wc_seq ?_); intro K hK) | (refine auC ?_) | (refine wc_cond rfl (fun hc => ?_) (fun hc => ?_)) | (refine wc_draw (by kernel_rfl) (by kernel_rfl) (by decide +kernel) ?_; intro w0 hw0 hm0; (try simp only [List.append_eq, List.cons_append, List.nil_append])) | (refine auP ?_) | ((refine auR ?_); clear hK K) | (refine auR ?_) | ((with_reducible refine hK _ _ ?_); clear hK K) | fail)
  obtain ⟨uc, rfl⟩ : ∃ u, u = x := ⟨x, rfl⟩
  obtain ⟨oC, rfl⟩ : ∃ u, u = oa := ⟨oa, rfl⟩
  obtain ⟨cs, hoC, hnC⟩ := hx
  haveI hC := hoC.atf
  have kc := norm_okA (over_ok km kn) hnC
  have OD := fun w' (h : Ats w' vl l) (h' : Ats w' uc cs) => over_yes w' h h' kl kc
  clear OC
  repeat' (first | (refine wlS ?_) | (refine wlB ?_) | (refine wlE ?_) | (refine efSvao ?_; intro v oa ho) | ((with_reducible refine sel_call ?_); first | (refine wl_newO rfl rfl rfl rfl rfl (fun w hm => by with_reducible exact OD w (VwT.out w hm) (VwT.out w hm)) ?_; intro x oa hx)) | (refine efBnn ?_; intro n hn) | (refine efB ?_) | (refine efBS ?_) | (refine wl_skip rfl rfl ?_) | ((with_reducible refine wc_seq ?_); intro K hK) | (refine auC ?_) | (refine wc_cond rfl (fun hc => ?_) (fun hc => ?_)) | (refine wc_draw (by kernel_rfl) (by kernel_rfl) (by decide +kernel) ?_; intro w0 hw0 hm0; (try simp only [List.append_eq, List.cons_append, List.nil_append])) | (refine auP ?_) | ((refine auR ?_); clear hK K) | (refine auR ?_) | ((with_reducible refine hK _ _ ?_); clear hK K) | fail)
  obtain ⟨ud, rfl⟩ : ∃ u, u = x := ⟨x, rfl⟩
  obtain ⟨oD, rfl⟩ : ∃ u, u = oa := ⟨oa, rfl⟩
  obtain ⟨ds, hoD, hnD⟩ := hx
  haveI hD := hoD.atf
  clear OD
  repeat' (first | (refine wlS ?_) | (refine wlB ?_) | (refine wlE ?_) | (refine efSvao ?_; intro v oa ho) | ((with_reducible refine sel_call ?_); first | (refine wl_newO rfl rfl rfl rfl rfl (fun w hm => by with_reducible exact OI w (VwT.out w hm) (VwT.out w hm)) ?_; intro x oa hx)) | (refine efBnn ?_; intro n hn) | (refine efB ?_) | (refine efBS ?_) | (refine wl_skip rfl rfl ?_) | ((with_reducible refine wc_seq ?_); intro K hK) | (refine auC ?_) | (refine wc_cond rfl (fun hc => ?_) (fun hc => ?_)) | (refine wc_draw (by kernel_rfl) (by kernel_rfl) (by decide +kernel) ?_; intro w0 hw0 hm0; (try simp only [List.append_eq, List.cons_append, List.nil_append])) | (refine auP ?_) | ((refine auR ?_); clear hK K) | (refine auR ?_) | ((with_reducible refine hK _ _ ?_); clear hK K) | fail)
  obtain ⟨ui, rfl⟩ : ∃ u, u = x := ⟨x, rfl⟩
  obtain ⟨oI, rfl⟩ : ∃ u, u = oa := ⟨oa, rfl⟩
  obtain ⟨es, hoI, hnI⟩ := hx
  haveI hI := hoI.atf
  clear OI
  repeat' (first | (refine wlS ?_) | (refine wlB ?_) | (refine wlE ?_) | (refine efSvao ?_; intro v oa ho) | ((with_reducible refine sel_call ?_); first | (refine wl_newO rfl rfl rfl rfl rfl (fun w hm => by with_reducible exact NL w (VwT.out w hm)) ?_; intro x oa hx)) | (refine efBnn ?_; intro n hn) | (refine efB ?_) | (refine efBS ?_) | (refine wl_skip rfl rfl ?_) | ((with_reducible refine wc_seq ?_); intro K hK) | (refine auC ?_) | (refine wc_cond rfl (fun hc => ?_) (fun hc => ?_)) | (refine wc_draw (by kernel_rfl) (by kernel_rfl) (by decide +kernel) ?_; intro w0 hw0 hm0; (try simp only [List.append_eq, List.cons_append, List.nil_append])) | (refine auP ?_) | ((refine auR ?_); clear hK K) | (refine auR ?_) | ((with_reducible refine hK _ _ ?_); clear hK K) | fail)
  obtain ⟨uj, rfl⟩ : ∃ u, u = x := ⟨x, rfl⟩
  obtain ⟨oJ, rfl⟩ : ∃ u, u = oa := ⟨oa, rfl⟩
  obtain ⟨js, hoJ, hnJ⟩ := hx
  haveI hJ := hoJ.atf
  have gA := over_norm kl km hnA
  have gB := over_norm ka kn hnB
  have gC := over_norm km kn hnC
  have gD := over_norm kl kc hnD
  have gI := over_norm kl kl hnI
  have e1 : abs bs = abs ds := rises_get hnB.rises hnD.rises fun k => by rw [gB, gD, gA, gC, Option.or_assoc]
  have e2 : abs es = abs js := rises_get hnI.rises hnJ.rises fun k => by rw [gI, hnJ.get, Option.or_self]
  have e3 : matchB als m = true := by
    rw [match_abs, matchA, List.all_eq_true]
    rintro ⟨k, q⟩ hx
    rw [beq_iff_eq, gA, (getA_mem km.nd).2 hx]; rfl
  have S1 := fun w' (h : Ats w' ub bs) (h' : Ats w' ud ds) => sameA_c w' h h' (r := true) (by rw [e1]; simp)
  have S2 := fun w' (h : Ats w' ui es) (h' : Ats w' uj js) => sameA_c w' h h' (r := true) (by rw [e2]; simp)
  have M1 := fun w' (h : Ats w' ua als) (h' : Ats w' vm m) => (show Calls Try.prog 15 [ua, vm].toArray w' (Ret (.bool true) w') by rw [← e3]; exact match_c w' h h')
  clear NL hnB hnC hnD hnI hnJ gB gC gD gI e1 e2 e3 hoB hoC hoD hoI hoJ
  repeat' (first | (refine wlS ?_) | (refine wlB ?_) | ((with_reducible refine sel_call ?_); refine wl_rd rfl rfl (rd_call rfl rfl rfl (fun w hm => by with_reducible first | exact S1 w (VwT.out w hm) (VwT.out w hm) | exact S2 w (VwT.out w hm) (VwT.out w hm) | exact M1 w (VwT.out w hm) (VwT.out w hm))) ?_) | (refine wlE ?_) | (refine efSvao ?_; intro v oa ho) | (refine efBnn ?_; intro n hn) | (refine efB ?_) | (refine efBS ?_) | (refine wl_skip rfl rfl ?_) | ((with_reducible refine wc_seq ?_); intro K hK) | (refine auC ?_) | (refine wc_cond rfl (fun hc => ?_) (fun hc => ?_)) | (refine wc_draw (by kernel_rfl) (by kernel_rfl) (by decide +kernel) ?_; intro w0 hw0 hm0; (try simp only [List.append_eq, List.cons_append, List.nil_append])) | (refine auP ?_) | ((refine auR ?_); clear hK K) | (refine auR ?_) | ((with_reducible refine hK _ _ ?_); clear hK K) | fail)
  clear S1 S2 M1 hB hC hD hI hJ
  have GN := fun w' {k : Int} (hk : getA (abs m) k = none) (h : Ats w' vm m) => get_no w' h hk
  have GY := fun w' {k : Int} {q : List Nat} (hk : getA (abs m) k = some q) (h : Ats w' vm m) => get_yes w' h hk (by
    have := fitsB_le ((km.each (k, q) ((getA_mem km.nd).1 hk)).2.2)
    dsimp only at this
    omega)
  refine wc_loop (σ := Nat) (fun i => [(1, vm), (7, ua), (109, vl), (110, .int .i64 (l.length : Int)), (111, .int .i64 (i : Int))]) (fun _ => oA) (fun i => i ≤ l.length) (fun i => l.length - i) 0 (Nat.zero_le _) (Fits.of ⟨rfl, rfl, rfl, rfl, rfl, trivial⟩ (by
    repeat (first | exact SubL.nil | exact SubL.refl _ | refine SubL.keep ?_ | exact SubL.headA _ _ | refine SubL.keepA ?_ _ | refine SubL.skip ?_ | refine SubL.skipA ?_ _)) rfl) ?_
  intro i hi
  by_cases hlt : i < l.length
  · obtain ⟨⟨k, bv, p⟩, hlx⟩ : ∃ x, l[i]? = some x := ⟨l[i]'(by omega), List.getElem?_eq_getElem _⟩
    have hmem := List.mem_of_getElem? hlx
    have hget := atsC_get hlx
    haveI : One bv := ⟨h1l _ hmem⟩
    dsimp only at hget
    have u1 : decide ((i : Int) < (l.length : Int)) = true := decide_eq_true (by omega)
    have u2 : IntKind.i64.wrap ((i : Int) + 1) = ((i + 1 : Nat) : Int) := by rw [wrap_i64 _ (by omega) (by omega)]; omega
    have j1 : (i : Int) < (l.length : Int) := by omega
    cases hg : getA (abs m) k with
    | none =>
      have GN1 := fun w' (h : Ats w' vm m) => GN w' hg h
      have e4 : matchB als [(k, bv, p)] = true := by
        have h1 : getA (abs l) k = some p := (getA_mem kl.nd).2 (List.mem_map.2 ⟨_, hmem, rfl⟩)
        rw [match_abs, matchA]
        show (getA (abs als) k == some p && true) = true
        rw [gA, hg, h1]; simp
      clear GN GY gA hnA kl km kn ka kc
      repeat' (first | (refine wlS ?_) | (refine wlB ?_) | ((with_reducible refine sel_call ?_); refine wl_rd rfl rfl (rd_call rfl rfl rfl (fun w hm => by with_reducible exact GN1 w (VwT.out w hm))) ?_) | (refine wlE ?_) | (refine efSvao ?_; intro v oa ho) | (refine efZCnn ?_; intro n hn) | (refine efBnn ?_; intro n hn) | (refine efB ?_) | (refine efBS ?_) | (refine wl_skip rfl rfl ?_) | ((with_reducible refine wc_seq ?_); intro K hK) | (refine auC ?_) | (refine wc_cond rfl (fun hc => ?_) (fun hc => ?_)) | (refine wc_draw (by kernel_rfl) (by kernel_rfl) (by decide +kernel) ?_; intro w0 hw0 hm0; (try simp only [List.append_eq, List.cons_append, List.nil_append])) | (refine auP ?_) | ((refine auR ?_); clear hK K) | (refine auR ?_) | ((with_reducible refine hK _ _ ?_); clear hK K) | fail)
      haveI hS : AtF _ v [(k, bv, p)] := AtF.mk' (OwnL.cs (h := ho)) (hbl.sub fun x hx => by simp only [List.mem_singleton] at hx; rw [hx]; exact hmem)
      have M2 := fun w' (h : Ats w' ua als) (h' : Ats w' v [(k, bv, p)]) => (show Calls Try.prog 15 [ua, v].toArray w' (Ret (.bool true) w') by rw [← e4]; exact match_c w' h h')
      repeat' (first | (refine wlS ?_) | (refine wlB ?_) | ((with_reducible refine sel_call ?_); refine wl_rd rfl rfl (rd_call rfl rfl rfl (fun w hm => by with_reducible exact M2 w (VwT.out w hm) (VwT.out w hm))) ?_) | (refine wlE ?_) | (refine efSvao ?_; intro v oa ho) | (refine efZCnn ?_; intro n hn) | (refine efBnn ?_; intro n hn) | (refine efB ?_) | (refine efBS ?_) | (refine wl_skip rfl rfl ?_) | ((with_reducible refine wc_seq ?_); intro K hK) | (refine auC ?_) | (refine wc_cond rfl (fun hc => ?_) (fun hc => ?_)) | (refine wc_draw (by kernel_rfl) (by kernel_rfl) (by decide +kernel) ?_; intro w0 hw0 hm0; (try simp only [List.append_eq, List.cons_append, List.nil_append])) | (refine auP ?_) | ((refine auR ?_); clear hK K) | (refine auR ?_) | ((with_reducible refine hK _ _ ?_); clear hK K) | fail)
      refine ⟨i + 1, hlt, by omega, Fits.of ⟨rfl, rfl, rfl, rfl, rfl, trivial⟩ ?_ rfl⟩
      repeat (first | exact SubL.nil | exact SubL.refl _ | refine SubL.keep ?_ | exact SubL.headA _ _ | refine SubL.keepA ?_ _ | refine SubL.skip ?_ | refine SubL.skipA ?_ _)
    | some q =>
      have GY1 := fun w' (h : Ats w' vm m) => GY w' hg h
      clear GN GY gA hnA kl km kn ka kc
      repeat' (first | (refine wlS ?_) | (refine wlB ?_) | (refine wlE ?_) | (refine efSvao ?_; intro v oa ho) | (refine efZCnn ?_; intro n hn) | ((with_reducible refine sel_call ?_); first | (refine wl_newO rfl rfl rfl rfl rfl (fun w hm => by with_reducible exact GY1 w (VwT.out w hm)) ?_; intro x oa hx)) | (refine efBnn ?_; intro n hn) | (refine efB ?_) | (refine efBS ?_) | (refine wl_skip rfl rfl ?_) | ((with_reducible refine wc_seq ?_); intro K hK) | (refine auC ?_) | (refine wc_cond rfl (fun hc => ?_) (fun hc => ?_)) | (refine wc_draw (by kernel_rfl) (by kernel_rfl) (by decide +kernel) ?_; intro w0 hw0 hm0; (try simp only [List.append_eq, List.cons_append, List.nil_append])) | (refine auP ?_) | ((refine auR ?_); clear hK K) | (refine auR ?_) | ((with_reducible refine hK _ _ ?_); clear hK K) | fail)
      refine ⟨i + 1, hlt, by omega, Fits.of ⟨rfl, rfl, rfl, rfl, rfl, trivial⟩ ?_ rfl⟩
      repeat (first | exact SubL.nil | exact SubL.refl _ | refine SubL.keep ?_ | exact SubL.headA _ _ | refine SubL.keepA ?_ _ | refine SubL.skip ?_ | refine SubL.skipA ?_ _)
  · obtain rfl : i = l.length := by omega
    have u1 : decide ((l.length : Int) < (l.length : Int)) = false := decide_eq_false (by omega)
    clear GN GY
    repeat' (first | (refine wlS ?_) | (refine wlB ?_) | (refine wlE ?_) | (refine efSvao ?_; intro v oa ho) | (refine efBnn ?_; intro n hn) | (refine efB ?_) | (refine efBS ?_) | (refine wl_skip rfl rfl ?_) | ((with_reducible refine wc_seq ?_); intro K hK) | (refine auC ?_) | (refine wc_cond rfl (fun hc => ?_) (fun hc => ?_)) | (refine wc_draw (by kernel_rfl) (by kernel_rfl) (by decide +kernel) ?_; intro w0 hw0 hm0; (try simp only [List.append_eq, List.cons_append, List.nil_append])) | (refine auP ?_) | ((refine auR ?_); clear hK K) | (refine auR ?_) | ((with_reducible refine hK _ _ ?_); clear hK K) | fail)
    first | refine end_ret (ResP.tmp rfl ResP.nil) ?_ | refine end_normal (ResP.tmp rfl ResP.nil) ?_
    first | rfl | (show _ = _; rfl) | (simp only [tupV, *]; done)
end Go.Proofs.Ytlpalhagndmpjaa.AttrOverWalk
