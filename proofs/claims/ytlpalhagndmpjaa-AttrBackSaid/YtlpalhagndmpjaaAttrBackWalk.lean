/- AttrBack: the walk. -/
import Derived.Test.YtlpalhagndmpjaaJnAC
namespace Go.Proofs.Ytlpalhagndmpjaa
open Go.RowKit
set_option linter.unusedVariables false
set_option linter.unusedSimpArgs false
theorem good_pack {m l : List Ab} (hk : AbOk l) (hm : IsNorm m l) : GoodA (packA m) ∧ toAb (rdD (packA m)).2 = m := by
  have hkm := norm_okA hk hm
  have hf := itA_fits hkm
  have hlen : (packA m).length ≤ 65536 := by
    have h1 := wrL_len hf.2
    have h2 := hf.1
    have h3 : (itA m).length ≤ 15 ∨ True := .inr trivial
    have hl : (itA m).length ≤ 24 := by rw [itA, List.length_map]; exact hkm.len
    have : ∀ (L : List (Nat × List Nat)), (∀ x ∈ L, x.2.length ≤ 64) → (wrL L).length ≤ 68 * L.length := fun L => by
      induction L with
      | nil => intro _; simp [wrL]
      | cons x r ih =>
        intro h
        have h1 := ih fun y hy => h y (by simp [hy])
        have h2 := wr1_len x
        have h3 := h x (by simp)
        have e : wrL (x :: r) = wr1 x ++ wrL r := by rw [show x :: r = [x] ++ r from rfl, wrL_app, wrL_one]
        rw [e, List.length_append, List.length_cons]; omega
    have h4 := this (itA m) fun x hx => by
      obtain ⟨y, hy, rfl⟩ := List.mem_map.1 hx
      exact fitsB_len (hkm.each y hy).2.2
    rw [packA]; omega
  have hrd := rdD_wrL hf hlen
  have ht : toAb (rdD (packA m)).2 = m := by
    rw [packA, hrd]
    exact toAb_itA fun x hx => (hkm.each x hx).1
  exact ⟨⟨by rw [packA, hrd], by rw [ht]; exact hkm, by rw [ht]; exact hm.rises⟩, ht⟩
set_option maxRecDepth 100000 in
set_option maxHeartbeats 4000000 in
theorem attrs_c (w : World) : Calls Try.prog 21 [].toArray w (Ret (.bool true) w) := by
  refine fn_ret (N := _) Try.func21 rfl Try.ntmps21 Try.results21 (by simp) ?_
  simp only [initS, Nat.reduceAdd, Nat.zero_add]
  repeat' (first | (refine wlS ?_) | (refine wlB ?_) | (refine wlE ?_) | (refine efSvao ?_; intro v oa ho) | (refine wl_skip rfl rfl ?_) | ((with_reducible refine wc_seq ?_); intro K hK) | (refine auC ?_) | (refine wc_cond rfl (fun hc => ?_) (fun hc => ?_)) | (refine wc_draw (by kernel_rfl) (by kernel_rfl) (by decide +kernel) ?_; intro w0 hw0 hm0; (try simp only [List.append_eq, List.cons_append, List.nil_append])) | (refine auP ?_) | ((refine auR ?_); clear hK K) | (refine auR ?_) | ((with_reducible refine hK _ _ ?_); clear hK K) | fail)
  rename_i vb ob hb
  have hbF : BodF (Hd ob) [(5, vb, [1])] := BodF.one hb
  haveI hA : AtF _ v [(5, vb, [1])] := AtF.mk' (OwnL.cs (h := ho)) hbF
  have IS := fun w' (h : Ats w' v [(5, vb, [1])]) => is_c w' h (k := 5) (r := true) (show isA [((5 : Int), [1])] 5 = true by decide)
  repeat' (first | (refine wlS ?_) | (refine wlB ?_) | ((with_reducible refine sel_call ?_); refine wl_rd rfl rfl (rd_call rfl rfl rfl (fun w hm => by with_reducible exact IS w (VwT.out w hm))) ?_) | (refine wlE ?_) | (refine efSvao ?_; intro v oa ho) | (refine wl_skip rfl rfl ?_) | ((with_reducible refine wc_seq ?_); intro K hK) | (refine auC ?_) | (refine wc_cond rfl (fun hc => ?_) (fun hc => ?_)) | (refine wc_draw (by kernel_rfl) (by kernel_rfl) (by decide +kernel) ?_; intro w0 hw0 hm0; (try simp only [List.append_eq, List.cons_append, List.nil_append])) | (refine auP ?_) | ((refine auR ?_); clear hK K) | (refine auR ?_) | ((with_reducible refine hK _ _ ?_); clear hK K) | fail)
  first | refine end_ret (ResP.tmp rfl ResP.nil) ?_ | refine end_normal (ResP.tmp rfl ResP.nil) ?_
  first | rfl | (show _ = _; rfl) | (simp only [tupV, *]; done)
end Go.Proofs.Ytlpalhagndmpjaa
namespace Go.Proofs.Ytlpalhagndmpjaa.AttrBackWalk
open Go.RowKit
set_option linter.unusedVariables false
set_option linter.unusedSimpArgs false
set_option maxRecDepth 100000 in
set_option maxHeartbeats 8000000 in
theorem walk (w : World) {v : Value} {l : List Att} (h : Ats w v l) : Calls Try.prog 6 [v].toArray w (Ret (.bool true) w) := by
  haveI i0 := h.old
  haveI i1 := h.cs.old
  obtain ⟨e, he⟩ : ∃ e, e = chkA (abs l) := ⟨_, rfl⟩
  have AT := attrs_c
  by_cases h0 : e ≠ 0
  · have PE := fun w' (h : Ats w' v l) => pack_err w' h he.symm h0
    have CK := fun w' (h : Ats w' v l) => (show Calls Try.prog 13 [v].toArray w' (Ret (.int .i64 e) w') by rw [he]; exact check_a w' h)
    have t1 : (e != 0) = true := by simpa using h0
    have t2 : (((0 : Nat) : Int) == 0) = true := rfl
    have t3 : (e == e) = true := by simp
    clear h he
    refine fn_ret (N := _) Try.func6 rfl Try.ntmps6 Try.results6 (by simp) ?_
    simp only [initS, Nat.reduceAdd, Nat.zero_add]
    repeat' (first | (refine wlS ?_) | (refine wlB ?_) | ((with_reducible refine sel_call ?_); refine wl_rd rfl rfl (rd_call rfl rfl rfl (fun w hm => by with_reducible first | exact AT w | exact PE w (VwT.out w hm) | exact CK w (VwT.out w hm))) ?_) | (refine wlE ?_) | (refine efSvao ?_; intro v oa ho) | (refine wl_skip rfl rfl ?_) | ((with_reducible refine wc_seq ?_); intro K hK) | (refine auC ?_) | (refine wc_cond rfl (fun hc => ?_) (fun hc => ?_)) | (refine wc_draw (by kernel_rfl) (by kernel_rfl) (by decide +kernel) ?_; intro w0 hw0 hm0; (try simp only [List.append_eq, List.cons_append, List.nil_append])) | (refine auP ?_) | ((refine auR ?_); clear hK K) | (refine auR ?_) | ((with_reducible refine hK _ _ ?_); clear hK K) | fail)
    first | refine end_ret (ResP.tmp rfl ResP.nil) ?_ | refine end_normal (ResP.tmp rfl ResP.nil) ?_
    first | rfl | (show _ = _; rfl) | (simp only [tupV, *]; done)
  have h0' : chkA (abs l) = 0 := by rw [← he]; exact Decidable.of_not_not h0
  have hk := chkA_zero.1 h0'
  have NO := fun w' (h : Ats w' v l) => norm_ok w' h hk
  have PO := fun w' (h : Ats w' v l) => pack_ok w' h hk
  have t0 : ((0 : Int) != 0) = false := rfl
  have t00 : ((0 : Int) == 0) = true := rfl
  clear h he h0 h0'
  refine fn_ret (N := _) Try.func6 rfl Try.ntmps6 Try.results6 (by simp) ?_
  simp only [initS, Nat.reduceAdd, Nat.zero_add]
  repeat' (first | (refine wlS ?_) | (refine wlB ?_) | ((with_reducible refine sel_call ?_); refine wl_rd rfl rfl (rd_call rfl rfl rfl (fun w hm => by with_reducible exact AT w)) ?_) | (refine wlE ?_) | (refine efSvao ?_; intro v oa ho) | ((with_reducible refine sel_call ?_); first | (refine wl_newO rfl rfl rfl rfl rfl (fun w hm => by with_reducible exact PO w (VwT.out w hm)) ?_; intro x oa hx)) | (refine wl_skip rfl rfl ?_) | ((with_reducible refine wc_seq ?_); intro K hK) | (refine auC ?_) | (refine wc_cond rfl (fun hc => ?_) (fun hc => ?_)) | (refine wc_draw (by kernel_rfl) (by kernel_rfl) (by decide +kernel) ?_; intro w0 hw0 hm0; (try simp only [List.append_eq, List.cons_append, List.nil_append])) | (refine auP ?_) | ((refine auR ?_); clear hK K) | (refine auR ?_) | ((with_reducible refine hK _ _ ?_); clear hK K) | fail)
  obtain ⟨m, hm, hb⟩ := hx
  obtain ⟨hg, ht⟩ := good_pack hk hm
  have UN := fun w' (h : Cb w' x (packA m).length (packA m)) => unpack_good w' h hg
  rw [ht] at UN
  clear hg ht
  repeat' (first | (refine wlS ?_) | (refine wlB ?_) | (refine wlE ?_) | (refine efSvao ?_; intro v oa ho) | ((with_reducible refine sel_call ?_); first | (refine wl_newO rfl rfl rfl rfl rfl (fun w hm => by with_reducible exact UN w (VwB.out w hm)) ?_; intro x oa hx)) | (refine wl_skip rfl rfl ?_) | ((with_reducible refine wc_seq ?_); intro K hK) | (refine auC ?_) | (refine wc_cond rfl (fun hc => ?_) (fun hc => ?_)) | (refine wc_draw (by kernel_rfl) (by kernel_rfl) (by decide +kernel) ?_; intro w0 hw0 hm0; (try simp only [List.append_eq, List.cons_append, List.nil_append])) | (refine auP ?_) | ((refine auR ?_); clear hK K) | (refine auR ?_) | ((with_reducible refine hK _ _ ?_); clear hK K) | fail)
  obtain ⟨its, hot, hab⟩ := hx
  haveI hA := hot.atf
  obtain ⟨u1, rfl⟩ : ∃ u1, u1 = x := ⟨x, rfl⟩
  clear UN PO
  repeat' (first | (refine wlS ?_) | (refine wlB ?_) | (refine wlE ?_) | (refine efSvao ?_; intro v oa ho) | ((with_reducible refine sel_call ?_); first | (refine wl_newO rfl rfl rfl rfl rfl (fun w hm => by with_reducible exact NO w (VwT.out w hm)) ?_; intro x oa hx)) | (refine wl_skip rfl rfl ?_) | ((with_reducible refine wc_seq ?_); intro K hK) | (refine auC ?_) | (refine wc_cond rfl (fun hc => ?_) (fun hc => ?_)) | (refine wc_draw (by kernel_rfl) (by kernel_rfl) (by decide +kernel) ?_; intro w0 hw0 hm0; (try simp only [List.append_eq, List.cons_append, List.nil_append])) | (refine auP ?_) | ((refine auR ?_); clear hK K) | (refine auR ?_) | ((with_reducible refine hK _ _ ?_); clear hK K) | fail)
  obtain ⟨js, hoj, hnj⟩ := hx
  haveI hB := hoj.atf
  obtain ⟨u2, rfl⟩ : ∃ u2, u2 = x := ⟨x, rfl⟩
  have SA := fun w' (h : Ats w' u1 its) (h' : Ats w' u2 js) => sameA_c w' h h' (r := true) (by rw [show abs its = abs js by rw [hab]; exact IsNorm.only hm hnj]; simp)
  clear NO
  repeat' (first | (refine wlS ?_) | (refine wlB ?_) | ((with_reducible refine sel_call ?_); refine wl_rd rfl rfl (rd_call rfl rfl rfl (fun w hm => by with_reducible exact SA w (VwT.out w hm) (VwT.out w hm))) ?_) | (refine wlE ?_) | (refine efSvao ?_; intro v oa ho) | (refine wl_skip rfl rfl ?_) | ((with_reducible refine wc_seq ?_); intro K hK) | (refine auC ?_) | (refine wc_cond rfl (fun hc => ?_) (fun hc => ?_)) | (refine wc_draw (by kernel_rfl) (by kernel_rfl) (by decide +kernel) ?_; intro w0 hw0 hm0; (try simp only [List.append_eq, List.cons_append, List.nil_append])) | (refine auP ?_) | ((refine auR ?_); clear hK K) | (refine auR ?_) | ((with_reducible refine hK _ _ ?_); clear hK K) | fail)
  first | refine end_ret (ResP.tmp rfl ResP.nil) ?_ | refine end_normal (ResP.tmp rfl ResP.nil) ?_
  first | rfl | (show _ = _; rfl) | (simp only [tupV, *]; done)
end Go.Proofs.Ytlpalhagndmpjaa.AttrBackWalk
