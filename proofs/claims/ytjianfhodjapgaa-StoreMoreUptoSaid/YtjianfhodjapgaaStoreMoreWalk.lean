/- StoreMore: the walk. -/
import Derived.Test.YtjianfhodjapgaaJnAD
import Derived.Test.YtjianfhodjapgaaJnAC
namespace Go.Proofs.Ytjianfhodjapgaa.StoreMoreWalk
open Go.RowKit
set_option linter.unusedVariables false
set_option linter.unusedSimpArgs false
set_option maxRecDepth 100000 in
set_option maxHeartbeats 8000000 in
theorem walk (w : World) (next : Int) (hnw : (Lit.int .i64 next).wf = true) {vl : Value} {l : List He} (hl : Hes w vl l) {k : Nat} (hsz : SmH k l) {va : Value} {a : List Att} (ha : Ats w va a) {k1 : Nat} (hsa : SmB k1 a) {vb : Value} {b : List Att} (hb : Ats w vb b) {k2 : Nat} (hsb : SmB k2 b)
    (hk : k + k1 + k2 ≤ 1048576) : Calls Try.prog 6 [.int .i64 next, vl, va, vb].toArray w (Ret (.bool true) w) := by
  haveI i0 := hl.cs.old
  haveI i1 := ha.cs.old
  haveI i2 := hb.cs.old
  have hsm : ∀ x ∈ l, Small x.2.2.2 := fun x hx => (hsz.each x hx).small (by omega)
  have hlen : l.length ≤ 1048576 := Nat.le_trans hsz.len (by omega)
  by_cases hbad : resBad 16 next
  · have RB := fun w' => restore_bad w' (v := vl) hbad
    have t1 : ((1 : Int) != 0) = true := rfl
    clear hl hsz hsm hbad
    refine fn_ret (N := _) Try.func6 rfl Try.ntmps6 Try.results6 (by simp) ?_
    simp only [initS, Nat.reduceAdd, Nat.zero_add]
    repeat' (first | (refine wlS ?_) | (refine wlB ?_) | ((with_reducible refine sel_call ?_); refine wl_rd rfl rfl (rd_call rfl rfl rfl (fun w hm => by with_reducible exact RB w)) ?_) | (refine wlE ?_) | (refine efSvao ?_; intro v oa ho) | (refine wl_skip rfl rfl ?_) | ((with_reducible refine wc_seq ?_); intro K hK) | (refine auC ?_) | (refine wc_cond rfl (fun hc => ?_) (fun hc => ?_)) | (refine wc_draw (by kernel_rfl) (by kernel_rfl) (by decide +kernel) ?_; intro w0 hw0 hm0; (try simp only [List.append_eq, List.cons_append, List.nil_append])) | (refine auP ?_) | ((refine auR ?_); clear hK K) | (refine auR ?_) | ((with_reducible refine hK _ _ ?_); clear hK K) | fail)
    first | refine end_ret (ResP.tmp rfl ResP.nil) ?_ | refine end_normal (ResP.tmp rfl ResP.nil) ?_
    first | rfl | (show _ = _; rfl) | (simp only [tupV, *]; done)
  by_cases hno : ¬ (RiseH l next ∧ (l.length : Int) ≤ 16)
  · obtain ⟨e, he, RN⟩ := restore_no w hbad hl hsm hlen hno
    have RN2 := fun w' (h : Below w.heap.size w w') => RN w' ⟨hl.cs.below h, fun x hx => (hl.body x hx).below h⟩
    have t1 : (e != 0) = true := by rcases he with rfl | rfl <;> rfl
    clear hl hsz hsm hbad hno RN
    refine fn_ret (N := _) Try.func6 rfl Try.ntmps6 Try.results6 (by simp) ?_
    simp only [initS, Nat.reduceAdd, Nat.zero_add]
    repeat' (first | (refine wlS ?_) | (refine wlB ?_) | (refine wlE ?_) | (refine efSvao ?_; intro v oa ho) | ((with_reducible refine sel_call ?_); first | (refine wl_newO rfl rfl rfl rfl rfl (fun w hm => by with_reducible exact RN2 w (hm.below rfl)) ?_; intro x oa hx)) | (refine wl_skip rfl rfl ?_) | ((with_reducible refine wc_seq ?_); intro K hK) | (refine auC ?_) | (refine wc_cond rfl (fun hc => ?_) (fun hc => ?_)) | (refine wc_draw (by kernel_rfl) (by kernel_rfl) (by decide +kernel) ?_; intro w0 hw0 hm0; (try simp only [List.append_eq, List.cons_append, List.nil_append])) | (refine auP ?_) | ((refine auR ?_); clear hK K) | (refine auR ?_) | ((with_reducible refine hK _ _ ?_); clear hK K) | fail)
    subst hx
    repeat' (first | (refine wlS ?_) | (refine wlB ?_) | (refine wlE ?_) | (refine efSvao ?_; intro v oa ho) | (refine wl_skip rfl rfl ?_) | ((with_reducible refine wc_seq ?_); intro K hK) | (refine auC ?_) | (refine wc_cond rfl (fun hc => ?_) (fun hc => ?_)) | (refine wc_draw (by kernel_rfl) (by kernel_rfl) (by decide +kernel) ?_; intro w0 hw0 hm0; (try simp only [List.append_eq, List.cons_append, List.nil_append])) | (refine auP ?_) | ((refine auR ?_); clear hK K) | (refine auR ?_) | ((with_reducible refine hK _ _ ?_); clear hK K) | fail)
    first | refine end_ret (ResP.tmp rfl ResP.nil) ?_ | refine end_normal (ResP.tmp rfl ResP.nil) ?_
    first | rfl | (show _ = _; rfl) | (simp only [tupV, *]; done)
  obtain ⟨hr, hf⟩ := Classical.not_not.1 hno
  have RO := fun w' (h : Below w.heap.size w w') => restore_ok w' hbad ⟨hl.cs.below h, fun x hx => (hl.body x hx).below h⟩ hsm hlen hr hf
  have t0 : ((0 : Int) != 0) = false := rfl
  have q1 := atsC_len a
  have q2 := atsC_len b
  have o1 := ats_oneS ha
  have o2 := ats_oneS hb
  have b1 := ha.bodF
  have b2 := hb.bodF
  have hla := hsa.len
  have hlb := hsb.len
  have hsab : Small (a ++ b) := ⟨by rw [List.length_append]; omega, fun x hx => by
    rcases List.mem_append.1 hx with hx | hx
    · have := hsa.each x hx; omega
    · have := hsb.each x hx; omega⟩
  have hsA : Small a := hsa.small (by omega)
  have haA := ha.old
  clear hl hsz hsm hbad hno
  refine fn_ret (N := _) Try.func6 rfl Try.ntmps6 Try.results6 (by simp) ?_
  simp only [initS, Nat.reduceAdd, Nat.zero_add]
  repeat' (first | (refine wlS ?_) | (refine wlB ?_) | (refine wlPN ?_) | (refine wlE ?_) | (refine efSvao ?_; intro v oa ho) | ((with_reducible refine sel_call ?_); first | (refine wl_newO rfl rfl rfl rfl rfl (fun w hm => by with_reducible exact RO w (hm.below rfl)) ?_; intro x oa hx)) | (refine wl_skip rfl rfl ?_) | ((with_reducible refine wc_seq ?_); intro K hK) | (refine auC ?_) | (refine wc_cond rfl (fun hc => ?_) (fun hc => ?_)) | (refine wc_draw (by kernel_rfl) (by kernel_rfl) (by decide +kernel) ?_; intro w0 hw0 hm0; (try simp only [List.append_eq, List.cons_append, List.nil_append])) | (refine auP ?_) | ((refine auR ?_); clear hK K) | (refine auR ?_) | ((with_reducible refine hK _ _ ?_); clear hK K) | fail)
  obtain ⟨g, S, ob, hbg, rfl, hS, hSm, hSn, hKp, hab⟩ := hx
  obtain ⟨bp, rfl⟩ : ∃ bp, bp = x := ⟨x, rfl⟩
  obtain ⟨vB, rfl⟩ : ∃ u, u = v := ⟨v, rfl⟩
  obtain ⟨oV, rfl⟩ : ∃ o, o = oa := ⟨oa, rfl⟩
  have hoB : OwnL 49 2 vB (a ++ b).length (atsC (a ++ b)) oV := by
    have h1 := ho
    rw [atsC_app, List.length_append]
    simpa using h1
  clear ho
  haveI hOb : AtF _ vB (a ++ b) := AtF.mk' (OwnL.cs (h := hoB)) (fun x hx => by
    rcases List.mem_append.1 hx with hx | hx
    · exact b1 x hx
    · exact b2 x hx)
  have FA := fun w' (h1 : Hd (stoB bp g S) w') (h2 : Hd ob w') (h3 : Ats w' va a) => find_s w' h1 h2 hS hKp h3 hsA
  have FB := fun w' (h1 : Hd (stoB bp g S) w') (h2 : Hd ob w') (h3 : Ats w' vB (a ++ b)) => find_s w' h1 h2 hS hKp h3 hsab
  have FN := fun w' (h1 : Hd (stoB bp g S) w') (h2 : Hd ob w') => find_s w' (va := .slice none 0 0) (ask := []) h1 h2 hS hKp ⟨⟨OwnL.ln (OwnL.nil 0 2), fun j u hj => by simp [atsC] at hj⟩, fun x hx => by cases hx⟩ ⟨by simp, fun x hx => by cases hx⟩
  have LS := fun w' (h1 : Hd (stoB bp g S) w') (h2 : Hd ob w') => list_s w' h1 h2 hS hKp
  have hsub : ∀ z, z ∈ findK S.m (a ++ b) → z ∈ findK S.m a := fun z h => findK_app h
  have h16 : S.m.length ≤ 1000000 := by have := hS.few; have := hS.hi; omega
  have hml : S.m.length = l.length := by have := congrArg List.length hab; rwa [List.length_map, List.length_map] at this
  have hfa : (findK S.m a).length ≤ 1000000 := Nat.le_trans (findK_len _ _) h16
  have hfb : (findK S.m (a ++ b)).length ≤ 1000000 := Nat.le_trans (findK_len _ _) h16
  have hsort := hS.sorted
  rw [findK_nil, List.length_map] at FN
  clear hS hKp hSm hSn hab b1 b2 o1 o2 hsab hsA
  repeat' (first | (refine wlS ?_) | (refine wlB ?_) | (refine wlE ?_) | (refine efSvao ?_; intro v oa ho) | ((with_reducible refine sel_call ?_); first | (refine wl_newO rfl rfl rfl rfl rfl (fun w hm => by with_reducible exact FA w (Mem.hd hm) (Mem.hd hm) (VwT.out w hm)) ?_; intro x oa hx)) | (refine wl_skip rfl rfl ?_) | ((with_reducible refine wc_seq ?_); intro K hK) | (refine auC ?_) | (refine wc_cond rfl (fun hc => ?_) (fun hc => ?_)) | (refine wc_draw (by kernel_rfl) (by kernel_rfl) (by decide +kernel) ?_; intro w0 hw0 hm0; (try simp only [List.append_eq, List.cons_append, List.nil_append])) | (refine auP ?_) | ((refine auR ?_); clear hK K) | (refine auR ?_) | ((with_reducible refine hK _ _ ?_); clear hK K) | fail)
  obtain ⟨uA, rfl⟩ : ∃ u, u = x := ⟨x, rfl⟩
  obtain ⟨oA, rfl⟩ : ∃ o, o = oa := ⟨oa, rfl⟩
  haveI hOA := hx
  clear FA
  repeat' (first | (refine wlS ?_) | (refine wlB ?_) | (refine wlE ?_) | (refine efSvao ?_; intro v oa ho) | ((with_reducible refine sel_call ?_); first | (refine wl_newO rfl rfl rfl rfl rfl (fun w hm => by with_reducible exact FB w (Mem.hd hm) (Mem.hd hm) (VwT.out w hm)) ?_; intro x oa hx)) | (refine wl_skip rfl rfl ?_) | ((with_reducible refine wc_seq ?_); intro K hK) | (refine auC ?_) | (refine wc_cond rfl (fun hc => ?_) (fun hc => ?_)) | (refine wc_draw (by kernel_rfl) (by kernel_rfl) (by decide +kernel) ?_; intro w0 hw0 hm0; (try simp only [List.append_eq, List.cons_append, List.nil_append])) | (refine auP ?_) | ((refine auR ?_); clear hK K) | (refine auR ?_) | ((with_reducible refine hK _ _ ?_); clear hK K) | fail)
  obtain ⟨uB, rfl⟩ : ∃ u, u = x := ⟨x, rfl⟩
  obtain ⟨oB, rfl⟩ : ∃ o, o = oa := ⟨oa, rfl⟩
  haveI hOB := hx
  clear FB
  refine wc_loop (σ := Nat) (fun i => [(1, vl), (9, ptr bp), (12, uA), (40, uB), (41, .int .i64 ((findK S.m (a ++ b)).length : Int)), (42, .int .i64 (i : Int))]) (fun i => stoB bp g S ++ (ob ++ (oA ++ oB))) (fun i => i ≤ (findK S.m (a ++ b)).length) (fun i => (findK S.m (a ++ b)).length - i) 0 (Nat.zero_le _)
    (Fits.of ⟨rfl, rfl, rfl, rfl, rfl, rfl, trivial⟩ ?_ rfl) ?_
  · rw [List.append_assoc]
    repeat (first | exact SubL.nil | exact SubL.refl _ | refine SubL.keep ?_ | exact SubL.headA _ _ | refine SubL.keepA ?_ _ | refine SubL.skip ?_ | refine SubL.skipA ?_ _)
  rintro i hi
  by_cases hlt : i < (findK S.m (a ++ b)).length
  · obtain ⟨z, hz⟩ : ∃ z, (findK S.m (a ++ b))[i]? = some z := ⟨_, List.getElem?_eq_getElem hlt⟩
    have hza := hsub z (List.mem_of_getElem? hz)
    have g0 : (ints (findK S.m (a ++ b)))[i]? = some (.int .i64 z) := map_at hz
    have CI := fun w' (h : Cs w' uA (findK S.m a).length (ints (findK S.m a))) => containsI_c w' h rfl hfa hza
    have u1 : decide ((i : Int) < ((findK S.m (a ++ b)).length : Int)) = true := decide_eq_true (by omega)
    have u2 : IntKind.i64.wrap ((i : Int) + 1) = ((i + 1 : Nat) : Int) := by rw [wrap_i64 _ (by omega) (by omega)]; omega
    have j1 : (i : Int) < ((findK S.m (a ++ b)).length : Int) := by omega
    have tn : (!true) = false := rfl
    clear hz hza hsub FN LS
    repeat' (first | (refine wlS ?_) | (refine wlB ?_) | ((with_reducible refine sel_call ?_); refine wl_rd rfl rfl (rd_call rfl rfl rfl (fun w hm => by with_reducible exact CI w (Vw.out w hm))) ?_) | (refine wlE ?_) | (refine efSvao ?_; intro v oa ho) | (refine wl_skip rfl rfl ?_) | ((with_reducible refine wc_seq ?_); intro K hK) | (refine auC ?_) | (refine wc_cond rfl (fun hc => ?_) (fun hc => ?_)) | (refine wc_draw (by kernel_rfl) (by kernel_rfl) (by decide +kernel) ?_; intro w0 hw0 hm0; (try simp only [List.append_eq, List.cons_append, List.nil_append])) | (refine auP ?_) | ((refine auR ?_); clear hK K) | (refine auR ?_) | ((with_reducible refine hK _ _ ?_); clear hK K) | fail)
    refine ⟨i + 1, hlt, by omega, Fits.of ⟨rfl, rfl, rfl, rfl, rfl, rfl, trivial⟩ (SubL.refl _) rfl⟩
  · obtain rfl : i = (findK S.m (a ++ b)).length := by omega
    have u1 : decide (((findK S.m (a ++ b)).length : Int) < ((findK S.m (a ++ b)).length : Int)) = false := decide_eq_false (by omega)
    have IS := fun w' {v : Value} (h1 : Cs w' v S.m.length (ints (S.m.map (·.1)))) => isSorted_c w' h1 (by rw [List.length_map]) h16 hsort
    have t5 : ((S.m.length : Int) == (S.m.length : Int)) = true := by simp
    rw [← hml] at i0
    clear hsub
    repeat' (first | (refine wlS ?_) | (refine wlB ?_) | (refine wlE ?_) | (refine efSvao ?_; intro v oa ho) | ((with_reducible refine sel_call ?_); first | (refine wl_newO rfl rfl rfl rfl rfl (fun w hm => by with_reducible exact FN w (Mem.hd hm) (Mem.hd hm)) ?_; intro x oa hx)) | (refine wl_skip rfl rfl ?_) | ((with_reducible refine wc_seq ?_); intro K hK) | (refine auC ?_) | (refine wc_cond rfl (fun hc => ?_) (fun hc => ?_)) | (refine wc_draw (by kernel_rfl) (by kernel_rfl) (by decide +kernel) ?_; intro w0 hw0 hm0; (try simp only [List.append_eq, List.cons_append, List.nil_append])) | (refine auP ?_) | ((refine auR ?_); clear hK K) | (refine auR ?_) | ((with_reducible refine hK _ _ ?_); clear hK K) | fail)
    obtain ⟨uN, rfl⟩ : ∃ u, u = x := ⟨x, rfl⟩
    obtain ⟨oN, rfl⟩ : ∃ o, o = oa := ⟨oa, rfl⟩
    haveI hON := hx
    clear FN
    repeat' (first | (refine wlS ?_) | (refine wlB ?_) | ((with_reducible refine sel_call ?_); refine wl_rd rfl rfl (rd_call rfl rfl rfl (fun w hm => by with_reducible exact IS w (Vw.out w hm))) ?_) | (refine wlE ?_) | (refine efSvao ?_; intro v oa ho) | ((with_reducible refine sel_call ?_); first | (refine wl_newO rfl rfl rfl rfl rfl (fun w hm => by with_reducible exact LS w (Mem.hd hm) (Mem.hd hm)) ?_; intro x oa hx)) | (refine wl_skip rfl rfl ?_) | ((with_reducible refine wc_seq ?_); intro K hK) | (refine auC ?_) | (refine wc_cond rfl (fun hc => ?_) (fun hc => ?_)) | (refine wc_draw (by kernel_rfl) (by kernel_rfl) (by decide +kernel) ?_; intro w0 hw0 hm0; (try simp only [List.append_eq, List.cons_append, List.nil_append])) | (refine auP ?_) | ((refine auR ?_); clear hK K) | (refine auR ?_) | ((with_reducible refine hK _ _ ?_); clear hK K) | fail)
    obtain ⟨hs, hOH, hah⟩ := hx
    have hhl : hs.length = S.m.length := by have := congrArg List.length hah; rwa [List.length_map, List.length_map] at this
    haveI hcs := hOH.cs
    rw [hhl] at hcs
    repeat' (first | (refine wlS ?_) | (refine wlB ?_) | (refine wlE ?_) | (refine efSvao ?_; intro v oa ho) | (refine wl_skip rfl rfl ?_) | ((with_reducible refine wc_seq ?_); intro K hK) | (refine auC ?_) | (refine wc_cond rfl (fun hc => ?_) (fun hc => ?_)) | (refine wc_draw (by kernel_rfl) (by kernel_rfl) (by decide +kernel) ?_; intro w0 hw0 hm0; (try simp only [List.append_eq, List.cons_append, List.nil_append])) | (refine auP ?_) | ((refine auR ?_); clear hK K) | (refine auR ?_) | ((with_reducible refine hK _ _ ?_); clear hK K) | fail)
    first | refine end_ret (ResP.tmp rfl ResP.nil) ?_ | refine end_normal (ResP.tmp rfl ResP.nil) ?_
    first | rfl | (show _ = _; rfl) | (simp only [tupV, *]; done)
end Go.Proofs.Ytjianfhodjapgaa.StoreMoreWalk
