/- StoreHides: the walk. -/
import Derived.Test.YtjianfhodjapgaaJnAD
import Derived.Test.YtjianfhodjapgaaJnAC
namespace Go.Proofs.Ytjianfhodjapgaa.StoreHidesWalk
open Go.RowKit
set_option linter.unusedVariables false
set_option linter.unusedSimpArgs false
/-- The loop's state. -/
structure HdS where
  i : Nat
  v : Value
  oo : Blks
set_option maxRecDepth 100000 in
set_option maxHeartbeats 16000000 in
theorem walk (w : World) {vl : Value} {l : List He} (hl : Hes w vl l) {k : Nat} (hsz : SmH k l) (at' : Int) (hatw : (Lit.int .i64 at').wf = true) {vb : Value} {nb : Nat} {pb : List Nat} (hb : Cb w vb nb pb) {va : Value} {ask : List Att} (ha : Ats w va ask) {k2 : Nat} (hsa : SmB k2 ask) (hk : k ≤ 1048576) (hk2 : k2 ≤ 1048576) (hnb : nb ≤ 1048576) :
    Calls Try.prog 5 [vl, .int .i64 at', vb, va].toArray w (Ret (.bool true) w) := by
  haveI i0 := hl.cs.old
  have SC := stores_c
  have tn : (!true) = false := rfl
  by_cases h0 : at' < 0
  · have t1 : decide (at' < 0) = true := decide_eq_true h0
    clear hl hsz hb ha hsa
    refine fn_ret (N := _) Try.func5 rfl Try.ntmps5 Try.results5 (by simp) ?_
    simp only [initS, Nat.reduceAdd, Nat.zero_add]
    repeat' (first | (refine wlS ?_) | (refine wlB ?_) | ((with_reducible refine sel_call ?_); refine wl_rd rfl rfl (rd_call rfl rfl rfl (fun w hm => by with_reducible exact SC w)) ?_) | (refine wlE ?_) | (refine efSvao ?_; intro v oa ho) | (refine efBnn ?_; intro n hn) | (refine efB ?_) | (refine efBS ?_) | (refine wl_skip rfl rfl ?_) | ((with_reducible refine wc_seq ?_); intro K hK) | (refine auC ?_) | (refine wc_cond rfl (fun hc => ?_) (fun hc => ?_)) | (refine wc_draw (by kernel_rfl) (by kernel_rfl) (by decide +kernel) ?_; intro w0 hw0 hm0; (try simp only [List.append_eq, List.cons_append, List.nil_append])) | (refine auP ?_) | ((refine auR ?_); clear hK K) | (refine auR ?_) | ((with_reducible refine hK _ _ ?_); clear hK K) | fail)
    first | refine end_ret (ResP.tmp rfl ResP.nil) ?_ | refine end_normal (ResP.tmp rfl ResP.nil) ?_
    first | rfl | (show _ = _; rfl) | (simp only [tupV, *]; done)
  have t1 : decide (at' < 0) = false := decide_eq_false h0
  obtain ⟨a, rfl⟩ : ∃ a : Nat, at' = (a : Int) := ⟨at'.toNat, by omega⟩
  by_cases h1 : l.length ≤ a
  · have t2 : decide ((a : Int) ≥ (l.length : Int)) = true := decide_eq_true (by omega)
    clear hl hsz hb ha hsa
    refine fn_ret (N := _) Try.func5 rfl Try.ntmps5 Try.results5 (by simp) ?_
    simp only [initS, Nat.reduceAdd, Nat.zero_add]
    repeat' (first | (refine wlS ?_) | (refine wlB ?_) | ((with_reducible refine sel_call ?_); refine wl_rd rfl rfl (rd_call rfl rfl rfl (fun w hm => by with_reducible exact SC w)) ?_) | (refine wlE ?_) | (refine efSvao ?_; intro v oa ho) | (refine efBnn ?_; intro n hn) | (refine efB ?_) | (refine efBS ?_) | (refine wl_skip rfl rfl ?_) | ((with_reducible refine wc_seq ?_); intro K hK) | (refine auC ?_) | (refine wc_cond rfl (fun hc => ?_) (fun hc => ?_)) | (refine wc_draw (by kernel_rfl) (by kernel_rfl) (by decide +kernel) ?_; intro w0 hw0 hm0; (try simp only [List.append_eq, List.cons_append, List.nil_append])) | (refine auP ?_) | ((refine auR ?_); clear hK K) | (refine auR ?_) | ((with_reducible refine hK _ _ ?_); clear hK K) | fail)
    first | refine end_ret (ResP.tmp rfl ResP.nil) ?_ | refine end_normal (ResP.tmp rfl ResP.nil) ?_
    first | rfl | (show _ = _; rfl) | (simp only [tupV, *]; done)
  have t2 : decide ((a : Int) ≥ (l.length : Int)) = false := decide_eq_false (by omega)
  have hal : a < l.length := by omega
  obtain ⟨y0, hy0⟩ : ∃ x, l[a]? = some x := ⟨l[a], List.getElem?_eq_getElem hal⟩
  have hmem := List.mem_of_getElem? hy0
  have hax := hl.body y0 hmem
  have hsx : Small y0.2.2.2 := (hsz.each y0 hmem).small hk
  haveI hAx := hax.old
  haveI hAxc := hax.cs.old
  have gv := hesC_v hy0
  have j1 : (a : Int) < (l.length : Int) := by omega
  obtain ⟨hid, hhid⟩ : ∃ h, hiddenB (abs y0.2.2.2) = h := ⟨_, rfl⟩
  have HC := fun w' (h : Ats w' y0.2.2.1 y0.2.2.2) => hiddenS_c w' h hsx hhid
  cases hid
  · have t3 : (!false) = true := rfl
    clear hl hsz hb ha hsa hax
    refine fn_ret (N := _) Try.func5 rfl Try.ntmps5 Try.results5 (by simp) ?_
    simp only [initS, Nat.reduceAdd, Nat.zero_add]
    repeat' (first | (refine wlS ?_) | (refine wlB ?_) | ((with_reducible refine sel_call ?_); refine wl_rd rfl rfl (rd_call rfl rfl rfl (fun w hm => by with_reducible first | exact SC w | exact HC w (VwT.out w hm))) ?_) | (refine wlE ?_) | (refine efSvao ?_; intro v oa ho) | (refine efBnn ?_; intro n hn) | (refine efB ?_) | (refine efBS ?_) | (refine wl_skip rfl rfl ?_) | ((with_reducible refine wc_seq ?_); intro K hK) | (refine auC ?_) | (refine wc_cond rfl (fun hc => ?_) (fun hc => ?_)) | (refine wc_draw (by kernel_rfl) (by kernel_rfl) (by decide +kernel) ?_; intro w0 hw0 hm0; (try simp only [List.append_eq, List.cons_append, List.nil_append])) | (refine auP ?_) | ((refine auR ?_); clear hK K) | (refine auR ?_) | ((with_reducible refine hK _ _ ?_); clear hK K) | fail)
    first | refine end_ret (ResP.tmp rfl ResP.nil) ?_ | refine end_normal (ResP.tmp rfl ResP.nil) ?_
    first | rfl | (show _ = _; rfl) | (simp only [tupV, *]; done)
  have hsm : ∀ x ∈ l, Small x.2.2.2 := fun x hx => (hsz.each x hx).small hk
  have hlen : l.length ≤ 1048576 := Nat.le_trans hsz.len hk
  have hbody := hl.body
  have hbodyx := hax.body
  have hone := hesC_one (l := l) fun x hx => by
    obtain ⟨_, _, hv, _⟩ := (hbody x hx).cs.ln.out
    rw [hv]; rfl
  have CL := fun w' (h : Cs w' vl l.length (hesC l)) => clone_he w' h (hesC_len l) hlen hone
  obtain ⟨p, c, hvb, _⟩ := hb.cs.ln.out
  subst hvb
  have hsA := hsa.small hk2
  haveI i2 := ha.old
  haveI i3 := ha.cs.old
  clear hsz hsa
  refine fn_ret (N := _) Try.func5 rfl Try.ntmps5 Try.results5 (by simp) ?_
  simp only [initS, Nat.reduceAdd, Nat.zero_add]
  repeat' (first | (refine wlS ?_) | (refine wlB ?_) | ((with_reducible refine sel_call ?_); refine wl_rd rfl rfl (rd_call rfl rfl rfl (fun w hm => by with_reducible first | exact SC w | exact HC w (VwT.out w hm))) ?_) | (refine wlE ?_) | (refine efSvao ?_; intro v oa ho) | ((with_reducible refine sel_call ?_); first | (refine wl_newO rfl rfl rfl rfl rfl (fun w hm => by with_reducible exact CL w (Vw.out w hm)) ?_; intro x oa hx)) | (refine efBnn ?_; intro n hn) | (refine efB ?_) | (refine efBS ?_) | (refine wl_skip rfl rfl ?_) | ((with_reducible refine wc_seq ?_); intro K hK) | (refine auC ?_) | (refine wc_cond rfl (fun hc => ?_) (fun hc => ?_)) | (refine wc_draw (by kernel_rfl) (by kernel_rfl) (by decide +kernel) ?_; intro w0 hw0 hm0; (try simp only [List.append_eq, List.cons_append, List.nil_append])) | (refine auP ?_) | ((refine auR ?_); clear hK K) | (refine auR ?_) | ((with_reducible refine hK _ _ ?_); clear hK K) | fail)
  obtain ⟨oM, rfl⟩ : ∃ o, o = oa := ⟨oa, rfl⟩
  obtain ⟨uM, rfl⟩ : ∃ u, u = x := ⟨x, rfl⟩
  rcases hx.out with ⟨_, h0l, _⟩ | ⟨gM, cap, cur, hu, hncap, hcapm, hcsz, htake, ho⟩
  · omega
  subst hu ho
  have hgv0 : (hesC l).length = l.length * 3 := hesC_len l
  obtain ⟨hh, ow, vx, its⟩ := y0
  dsimp only at hax hsx hAx hAxc gv hhid hbodyx
  obtain ⟨px, cx, hvx, _⟩ := hax.cs.ln.out
  subst hvx
  have hbx := hax.bodF
  have hnl := hb.ok.len
  have hbodv : BodF (Old w []) [((4 : Int), Value.slice p nb c, pb)] := fun y hy => by
    simp only [List.mem_singleton] at hy
    subst hy
    dsimp only
    rw [hnl]
    exact ⟨⟨hb.ok, hb.cs.ln⟩, fun w hw => hb.cs.old.out w hw⟩
  have hil : its.length ≤ 1048576 := hsx.len
  clear CL HC SC
  refine wc_loop (σ := HdS) (fun y => [(0, vl), (1, .int .i64 (a : Int)), (2, .slice p nb c), (3, va), (9, .slice (some ⟨gM, 0, none⟩) l.length cap), (10, y.v), (42, .slice px its.length cx), (43, .int .i64 (its.length : Int)), (44, .int .i64 (y.i : Int))]) (fun y => (gM, (cur, 31)) :: y.oo)
    (fun y => y.i ≤ its.length ∧ OwnL 49 2 y.v y.i (atsC ((its.take y.i).map (trA (.slice p nb c) pb))) y.oo) (fun y => its.length - y.i) ⟨0, .slice none 0 0, []⟩ ⟨Nat.zero_le _, OwnL.nil _ _⟩
    (Fits.of ⟨rfl, rfl, rfl, rfl, rfl, rfl, rfl, rfl, rfl, trivial⟩ (SubL.refl _) rfl) ?_
  rintro ⟨j, u, oo⟩ ⟨hj, ho⟩
  dsimp only at hj ho ⊢
  by_cases hlt : j < its.length
  · obtain ⟨⟨kk, bv, q⟩, hq⟩ : ∃ y, its[j]? = some y := ⟨its[j]'hlt, List.getElem?_eq_getElem _⟩
    obtain ⟨pq, cq, hvq, _⟩ := (hbodyx _ (List.mem_of_getElem? hq)).cs.ln.out
    dsimp only at hvq
    subst hvq
    have hget := atsC_get hq
    dsimp only at hget
    have u1 : decide ((j : Int) < (its.length : Int)) = true := decide_eq_true (by omega)
    have u2 : IntKind.i64.wrap ((j : Int) + 1) = ((j + 1 : Nat) : Int) := by rw [wrap_i64 _ (by omega) (by omega)]; omega
    have j2 : (j : Int) < (its.length : Int) := by omega
    have htk : (its.take (j + 1)).map (trA (.slice p nb c) pb) = (its.take j).map (trA (.slice p nb c) pb) ++ [trA (.slice p nb c) pb (kk, .slice pq q.length cq, q)] := by rw [List.take_add_one, hq, List.map_append]; rfl
    by_cases hk4 : kk = 4
    · subst hk4
      have t5 : ((4 : Int) == 4) = true := rfl
      have htr : trA (.slice p nb c) pb ((4 : Int), .slice pq q.length cq, q) = (4, .slice p nb c, pb) := if_pos rfl
      rw [htr] at htk
      clear hbody hbodyx hax hsx hsm hhid hone
      repeat' (first | (refine wlS ?_) | (refine wlB ?_) | (refine wlE ?_) | (refine efSvao ?_; intro v oa ho) | (refine efZCnn ?_; intro n hn) | (refine efBnn ?_; intro n hn) | (refine efB ?_) | (refine efBS ?_) | (refine wl_skip rfl rfl ?_) | ((with_reducible refine wc_seq ?_); intro K hK) | (refine auC ?_) | (refine wc_cond rfl (fun hc => ?_) (fun hc => ?_)) | (refine wc_draw (by kernel_rfl) (by kernel_rfl) (by decide +kernel) ?_; intro w0 hw0 hm0; (try simp only [List.append_eq, List.cons_append, List.nil_append])) | (refine auP ?_) | ((refine auR ?_); clear hK K) | (refine auR ?_) | ((with_reducible refine hK _ _ ?_); clear hK K) | fail)
      refine ⟨⟨j + 1, v, oa⟩, ⟨hlt, by dsimp only; rw [htk, atsC_app]; exact ho⟩, by dsimp only; omega, Fits.of ⟨rfl, rfl, rfl, rfl, rfl, rfl, rfl, rfl, rfl, trivial⟩ ?_ rfl⟩
      dsimp only
      repeat (first | exact SubL.nil | exact SubL.refl _ | refine SubL.keep ?_ | exact SubL.headA _ _ | refine SubL.keepA ?_ _ | refine SubL.skip ?_ | refine SubL.skipA ?_ _)
    · have t5 : (kk == 4) = false := by simpa using hk4
      have htr : trA (.slice p nb c) pb (kk, .slice pq q.length cq, q) = (kk, .slice pq q.length cq, q) := if_neg hk4
      rw [htr] at htk
      clear hbody hbodyx hax hsx hsm hhid hone
      repeat' (first | (refine wlS ?_) | (refine wlB ?_) | (refine wlE ?_) | (refine efSvao ?_; intro v oa ho) | (refine efZCnn ?_; intro n hn) | (refine efBnn ?_; intro n hn) | (refine efB ?_) | (refine efBS ?_) | (refine wl_skip rfl rfl ?_) | ((with_reducible refine wc_seq ?_); intro K hK) | (refine auC ?_) | (refine wc_cond rfl (fun hc => ?_) (fun hc => ?_)) | (refine wc_draw (by kernel_rfl) (by kernel_rfl) (by decide +kernel) ?_; intro w0 hw0 hm0; (try simp only [List.append_eq, List.cons_append, List.nil_append])) | (refine auP ?_) | ((refine auR ?_); clear hK K) | (refine auR ?_) | ((with_reducible refine hK _ _ ?_); clear hK K) | fail)
      refine ⟨⟨j + 1, v, oa⟩, ⟨hlt, by dsimp only; rw [htk, atsC_app]; exact ho⟩, by dsimp only; omega, Fits.of ⟨rfl, rfl, rfl, rfl, rfl, rfl, rfl, rfl, rfl, trivial⟩ ?_ rfl⟩
      dsimp only
      repeat (first | exact SubL.nil | exact SubL.refl _ | refine SubL.keep ?_ | exact SubL.headA _ _ | refine SubL.keepA ?_ _ | refine SubL.skip ?_ | refine SubL.skipA ?_ _)
  · obtain rfl : j = its.length := by omega
    have u1 : decide ((its.length : Int) < (its.length : Int)) = false := decide_eq_false (by omega)
    rw [List.take_length] at ho
    haveI hou := ho.ln
    have hlt2 : a * 3 + 2 < cur.size := by omega
    obtain ⟨cur', hcur'⟩ : ∃ c', putC cur (a * 3 + 2) u = c' := ⟨_, rfl⟩
    repeat' (first | (refine wlS ?_) | (refine wlB ?_) | (refine wlE ?_) | (refine efSvao ?_; intro v oa ho) | (refine efBnn ?_; intro n hn) | (refine efB ?_) | (refine efBS ?_) | (refine wl_skip rfl rfl ?_) | ((with_reducible refine wc_seq ?_); intro K hK) | (refine auC ?_) | (refine wc_cond rfl (fun hc => ?_) (fun hc => ?_)) | (refine wc_draw (by kernel_rfl) (by kernel_rfl) (by decide +kernel) ?_; intro w0 hw0 hm0; (try simp only [List.append_eq, List.cons_append, List.nil_append])) | (refine auP ?_) | ((refine auR ?_); clear hK K) | (refine auR ?_) | ((with_reducible refine hK _ _ ?_); clear hK K) | fail)
    simp only [elB, elO, Nat.zero_add]
    have hval : abs (its.map (trA (.slice p nb c) pb)) = (abs its).map fun x => if x.1 = 4 then (4, pb) else x := abs_tr _ _ _
    have hlenT : (its.map (trA (.slice p nb c) pb)).length = its.length := by rw [List.length_map]
    have hbodT : BodF (Old w []) (its.map (trA (.slice p nb c) pb)) := fun y hy => by
      obtain ⟨z, hz, rfl⟩ := List.mem_map.1 hy
      unfold trA
      split
      · exact hbodv _ (List.mem_singleton.2 rfl)
      · exact hbx z hz
    have hsmT : Small (its.map (trA (.slice p nb c) pb)) := ⟨by rw [hlenT]; exact hil, fun y hy => by
      obtain ⟨z, hz, rfl⟩ := List.mem_map.1 hy
      unfold trA
      split
      · dsimp only; omega
      · exact hsx.each z hz⟩
    obtain ⟨itT, hitT⟩ : ∃ t, its.map (trA (.slice p nb c) pb) = t := ⟨_, rfl⟩
    rw [hitT] at ho hbodT hsmT hval hlenT
    rw [← hlenT] at ho
    haveI hAT : AtF _ u itT := AtF.mk' (OwnL.cs (h := ho)) hbodT
    have hsetc := hesC_set l a u itT hal
    have hnew : OwnL 31 3 (.slice (some ⟨gM, 0, none⟩) l.length cap) (setH l a u itT).length (hesC (setH l a u itT)) [(gM, (cur', 31))] := by
      refine ⟨hesC_len _, .inr ⟨gM, cap, cur', by rw [setH_len], by rw [setH_len]; exact hncap, hcapm, ?_, ?_, rfl⟩, .inr rfl⟩
      · rw [← hcur']; unfold putC; rw [Array.size_setIfInBounds]; exact hcsz
      · rw [← hcur', setH_len, hsetc, ← htake]
        unfold putC
        rw [Array.toList_setIfInBounds, List.take_set]
    rw [setH_len] at hnew
    haveI hnewc := hnew
    repeat' (first | (refine wlS ?_) | (refine wlB ?_) | (refine wlE ?_) | (refine efSvao ?_; intro v oa ho) | ((with_reducible refine sel_store ?_); first | (refine wl_cellA rfl rfl rfl rfl rfl ?_)) | (refine efBnn ?_; intro n hn) | (refine efB ?_) | (refine efBS ?_) | (refine wl_skip rfl rfl ?_) | ((with_reducible refine wc_seq ?_); intro K hK) | (refine auC ?_) | (refine wc_cond rfl (fun hc => ?_) (fun hc => ?_)) | (refine wc_draw (by kernel_rfl) (by kernel_rfl) (by decide +kernel) ?_; intro w0 hw0 hm0; (try simp only [List.append_eq, List.cons_append, List.nil_append])) | (refine auP ?_) | ((refine auR ?_); clear hK K) | (refine auR ?_) | ((with_reducible refine hK _ _ ?_); clear hK K) | fail)
    have hbad : ¬ resBad 16 1073741824 := by unfold resBad; omega
    have hMl : (setH l a u itT).length = l.length := setH_len _ _ _ _
    have hsmM : ∀ y ∈ setH l a u itT, Small y.2.2.2 := fun y hy => by
      rcases setH_mem hy with h | ⟨_, h⟩
      · exact hsm y h
      · rw [h]; exact hsmT
    have hesM : ∀ w', Cs w' (.slice (some ⟨gM, 0, none⟩) l.length cap) l.length (hesC (setH l a u itT)) → Below w.heap.size w w' → Ats w' u itT → Hes w' (.slice (some ⟨gM, 0, none⟩) l.length cap) (setH l a u itT) := fun w' h1 h2 h3 => ⟨by rw [hMl]; exact h1, fun y hy => by
      rcases setH_mem hy with h | ⟨e1, e2⟩
      · exact (hbody y h).below h2
      · rw [e1, e2]; exact h3⟩
    have hesL : ∀ w', Below w.heap.size w w' → Hes w' vl l := fun w' h => ⟨hl.cs.below h, fun y hy => (hbody y hy).below h⟩
    have hriM : RiseH (setH l a u itT) 1073741824 ↔ RiseH l 1073741824 := RiseH.setH
    have hfnd : ∀ S1 S2 : Sto, S1.m.map absK = l.map absH → S2.m.map absK = (setH l a u itT).map absH → findK S2.m ask = findK S1.m ask := fun S1 S2 e1 e2 => by
      rw [findK_abs, findK_abs, e1, e2, ← hitT]
      exact find_setH hy0 hhid
    clear hbody hbodyx hax hone htake hsetc hval hbodT hbx hbodv hgv0 hl
    by_cases hr : RiseH l 1073741824
    · by_cases hf : (l.length : Int) ≤ 16
      · have R1 := fun w' (h : Below w.heap.size w w') => restore_ok w' hbad (hesL w' h) hsm hlen hr hf
        have M1 := fun w' (h1 : Cs w' (.slice (some ⟨gM, 0, none⟩) l.length cap) l.length (hesC (setH l a u itT))) (h2 : Below w.heap.size w w') (h3 : Ats w' u itT) => restore_ok w' hbad (hesM w' h1 h2 h3) hsmM (by omega) (hriM.2 hr) (by omega)
        have t0 : ((0 : Int) != 0) = false := rfl
        clear hsm hsmM hesM hesL hriM
        repeat' (first | (refine wlS ?_) | (refine wlB ?_) | (refine wlPN ?_) | (refine wlE ?_) | (refine efSvao ?_; intro v oa ho) | ((with_reducible refine sel_call ?_); first | (refine wl_newO rfl rfl rfl rfl rfl (fun w hm => by with_reducible exact R1 w (hm.below rfl)) ?_; intro x oa hx)) | (refine efBnn ?_; intro n hn) | (refine efB ?_) | (refine efBS ?_) | (refine wl_skip rfl rfl ?_) | ((with_reducible refine wc_seq ?_); intro K hK) | (refine auC ?_) | (refine wc_cond rfl (fun hc => ?_) (fun hc => ?_)) | (refine wc_draw (by kernel_rfl) (by kernel_rfl) (by decide +kernel) ?_; intro w0 hw0 hm0; (try simp only [List.append_eq, List.cons_append, List.nil_append])) | (refine auP ?_) | ((refine auR ?_); clear hK K) | (refine auR ?_) | ((with_reducible refine hK _ _ ?_); clear hK K) | fail)
        obtain ⟨g1, S1, ob1, hbg1, rfl, hS1, hSm1, hSn1, hKp1, hab1⟩ := hx
        obtain ⟨b1, rfl⟩ : ∃ b, b = x := ⟨x, rfl⟩
        clear R1
        repeat' (first | (refine wlS ?_) | (refine wlB ?_) | (refine wlPN ?_) | (refine wlE ?_) | (refine efSvao ?_; intro v oa ho) | ((with_reducible refine sel_call ?_); first | (refine wl_newO rfl rfl rfl rfl rfl (fun w hm => by with_reducible exact M1 w (Vw.out w hm) (hm.below rfl) (VwT.out w hm)) ?_; intro x oa hx)) | (refine efBnn ?_; intro n hn) | (refine efB ?_) | (refine efBS ?_) | (refine wl_skip rfl rfl ?_) | ((with_reducible refine wc_seq ?_); intro K hK) | (refine auC ?_) | (refine wc_cond rfl (fun hc => ?_) (fun hc => ?_)) | (refine wc_draw (by kernel_rfl) (by kernel_rfl) (by decide +kernel) ?_; intro w0 hw0 hm0; (try simp only [List.append_eq, List.cons_append, List.nil_append])) | (refine auP ?_) | ((refine auR ?_); clear hK K) | (refine auR ?_) | ((with_reducible refine hK _ _ ?_); clear hK K) | fail)
        obtain ⟨g2, S2, ob2, hbg2, rfl, hS2, hSm2, hSn2, hKp2, hab2⟩ := hx
        obtain ⟨b2, rfl⟩ : ∃ b, b = x := ⟨x, rfl⟩
        have hfi := hfnd S1 S2 hab1 hab2
        have F1 := fun w' (h1 : Hd (stoB b1 g1 S1) w') (h2 : Hd ob1 w') (h3 : Ats w' va ask) => find_s w' h1 h2 hS1 hKp1 h3 hsA
        have F2 := fun w' (h1 : Hd (stoB b2 g2 S2) w') (h2 : Hd ob2 w') (h3 : Ats w' va ask) => find_s w' h1 h2 hS2 hKp2 h3 hsA
        rw [hfi] at F2
        have h16 : S1.m.length ≤ 16 := by have := hS1.few; have := hS1.hi; omega
        have EQI := fun w' {v u : Value} (h1 : Cs w' v (findK S1.m ask).length (ints (findK S1.m ask))) (h2 : Cs w' u (findK S1.m ask).length (ints (findK S1.m ask))) => eqI_c w' h1 h2 rfl (Nat.le_trans (findK_len _ _) (by omega))
        clear M1
        repeat' (first | (refine wlS ?_) | (refine wlB ?_) | (refine wlPN ?_) | (refine wlE ?_) | (refine efSvao ?_; intro v oa ho) | ((with_reducible refine sel_call ?_); first | (refine wl_newO rfl rfl rfl rfl rfl (fun w hm => by with_reducible exact F1 w (Mem.hd hm) (Mem.hd hm) (VwT.out w hm)) ?_; intro x oa hx)) | (refine efBnn ?_; intro n hn) | (refine efB ?_) | (refine efBS ?_) | (refine wl_skip rfl rfl ?_) | ((with_reducible refine wc_seq ?_); intro K hK) | (refine auC ?_) | (refine wc_cond rfl (fun hc => ?_) (fun hc => ?_)) | (refine wc_draw (by kernel_rfl) (by kernel_rfl) (by decide +kernel) ?_; intro w0 hw0 hm0; (try simp only [List.append_eq, List.cons_append, List.nil_append])) | (refine auP ?_) | ((refine auR ?_); clear hK K) | (refine auR ?_) | ((with_reducible refine hK _ _ ?_); clear hK K) | fail)
        haveI hF1 := hx
        clear F1
        repeat' (first | (refine wlS ?_) | (refine wlB ?_) | (refine wlE ?_) | (refine efSvao ?_; intro v oa ho) | ((with_reducible refine sel_call ?_); first | (refine wl_newO rfl rfl rfl rfl rfl (fun w hm => by with_reducible exact F2 w (Mem.hd hm) (Mem.hd hm) (VwT.out w hm)) ?_; intro x oa hx)) | (refine efBnn ?_; intro n hn) | (refine efB ?_) | (refine efBS ?_) | (refine wl_skip rfl rfl ?_) | ((with_reducible refine wc_seq ?_); intro K hK) | (refine auC ?_) | (refine wc_cond rfl (fun hc => ?_) (fun hc => ?_)) | (refine wc_draw (by kernel_rfl) (by kernel_rfl) (by decide +kernel) ?_; intro w0 hw0 hm0; (try simp only [List.append_eq, List.cons_append, List.nil_append])) | (refine auP ?_) | ((refine auR ?_); clear hK K) | (refine auR ?_) | ((with_reducible refine hK _ _ ?_); clear hK K) | fail)
        haveI hF2 := hx
        clear F2
        repeat' (first | (refine wlS ?_) | (refine wlB ?_) | ((with_reducible refine sel_call ?_); refine wl_rd rfl rfl (rd_call rfl rfl rfl (fun w hm => by with_reducible exact EQI w (Vw.out w hm) (Vw.out w hm))) ?_) | (refine wlE ?_) | (refine efSvao ?_; intro v oa ho) | (refine efBnn ?_; intro n hn) | (refine efB ?_) | (refine efBS ?_) | (refine wl_skip rfl rfl ?_) | ((with_reducible refine wc_seq ?_); intro K hK) | (refine auC ?_) | (refine wc_cond rfl (fun hc => ?_) (fun hc => ?_)) | (refine wc_draw (by kernel_rfl) (by kernel_rfl) (by decide +kernel) ?_; intro w0 hw0 hm0; (try simp only [List.append_eq, List.cons_append, List.nil_append])) | (refine auP ?_) | ((refine auR ?_); clear hK K) | (refine auR ?_) | ((with_reducible refine hK _ _ ?_); clear hK K) | fail)
        first | refine end_ret (ResP.tmp rfl ResP.nil) ?_ | refine end_normal (ResP.tmp rfl ResP.nil) ?_
        first | rfl | (show _ = _; rfl) | (simp only [tupV, *]; done)
      · have R1 := fun w' (h : Below w.heap.size w w') => restore_7 w' hbad (hesL w' h) hsm hlen hr (by omega)
        have M1 := fun w' (h1 : Cs w' (.slice (some ⟨gM, 0, none⟩) l.length cap) l.length (hesC (setH l a u itT))) (h2 : Below w.heap.size w w') (h3 : Ats w' u itT) => restore_7 w' hbad (hesM w' h1 h2 h3) hsmM (by omega) (hriM.2 hr) (by omega)
        have t7 : ((7 : Int) != 0) = true := rfl
        have t8 : ((7 : Int) == 7) = true := rfl
        clear hsm hsmM hesM hesL hriM
        repeat' (first | (refine wlS ?_) | (refine wlB ?_) | (refine wlPNN ?_) | (refine wlE ?_) | (refine efSvao ?_; intro v oa ho) | ((with_reducible refine sel_call ?_); first | (refine wl_newO rfl rfl rfl rfl rfl (fun w hm => by with_reducible exact R1 w (hm.below rfl)) ?_; intro x oa hx)) | (refine efBnn ?_; intro n hn) | (refine efB ?_) | (refine efBS ?_) | (refine wl_skip rfl rfl ?_) | ((with_reducible refine wc_seq ?_); intro K hK) | (refine auC ?_) | (refine wc_cond rfl (fun hc => ?_) (fun hc => ?_)) | (refine wc_draw (by kernel_rfl) (by kernel_rfl) (by decide +kernel) ?_; intro w0 hw0 hm0; (try simp only [List.append_eq, List.cons_append, List.nil_append])) | (refine auP ?_) | ((refine auR ?_); clear hK K) | (refine auR ?_) | ((with_reducible refine hK _ _ ?_); clear hK K) | fail)
        subst hx
        repeat' (first | (refine wlS ?_) | (refine wlB ?_) | (refine wlPNN ?_) | (refine wlE ?_) | (refine efSvao ?_; intro v oa ho) | ((with_reducible refine sel_call ?_); first | (refine wl_newO rfl rfl rfl rfl rfl (fun w hm => by with_reducible exact M1 w (Vw.out w hm) (hm.below rfl) (VwT.out w hm)) ?_; intro x oa hx)) | (refine efBnn ?_; intro n hn) | (refine efB ?_) | (refine efBS ?_) | (refine wl_skip rfl rfl ?_) | ((with_reducible refine wc_seq ?_); intro K hK) | (refine auC ?_) | (refine wc_cond rfl (fun hc => ?_) (fun hc => ?_)) | (refine wc_draw (by kernel_rfl) (by kernel_rfl) (by decide +kernel) ?_; intro w0 hw0 hm0; (try simp only [List.append_eq, List.cons_append, List.nil_append])) | (refine auP ?_) | ((refine auR ?_); clear hK K) | (refine auR ?_) | ((with_reducible refine hK _ _ ?_); clear hK K) | fail)
        subst hx
        repeat' (first | (refine wlS ?_) | (refine wlB ?_) | (refine wlPNN ?_) | (refine wlE ?_) | (refine efSvao ?_; intro v oa ho) | (refine efBnn ?_; intro n hn) | (refine efB ?_) | (refine efBS ?_) | (refine wl_skip rfl rfl ?_) | ((with_reducible refine wc_seq ?_); intro K hK) | (refine auC ?_) | (refine wc_cond rfl (fun hc => ?_) (fun hc => ?_)) | (refine wc_draw (by kernel_rfl) (by kernel_rfl) (by decide +kernel) ?_; intro w0 hw0 hm0; (try simp only [List.append_eq, List.cons_append, List.nil_append])) | (refine auP ?_) | ((refine auR ?_); clear hK K) | (refine auR ?_) | ((with_reducible refine hK _ _ ?_); clear hK K) | fail)
        first | refine end_ret (ResP.tmp rfl ResP.nil) ?_ | refine end_normal (ResP.tmp rfl ResP.nil) ?_
        first | rfl | (show _ = _; rfl) | (simp only [tupV, *]; done)
    · have R1 := fun w' (h : Below w.heap.size w w') => restore_1 w' hbad (hesL w' h) hsm hlen hr
      have M1 := fun w' (h1 : Cs w' (.slice (some ⟨gM, 0, none⟩) l.length cap) l.length (hesC (setH l a u itT))) (h2 : Below w.heap.size w w') (h3 : Ats w' u itT) => restore_1 w' hbad (hesM w' h1 h2 h3) hsmM (by omega) (fun h => hr (hriM.1 h))
      have t7 : ((1 : Int) != 0) = true := rfl
      have t8 : ((1 : Int) == 1) = true := rfl
      clear hsm hsmM hesM hesL hriM
      repeat' (first | (refine wlS ?_) | (refine wlB ?_) | (refine wlPNN ?_) | (refine wlE ?_) | (refine efSvao ?_; intro v oa ho) | ((with_reducible refine sel_call ?_); first | (refine wl_newO rfl rfl rfl rfl rfl (fun w hm => by with_reducible exact R1 w (hm.below rfl)) ?_; intro x oa hx)) | (refine efBnn ?_; intro n hn) | (refine efB ?_) | (refine efBS ?_) | (refine wl_skip rfl rfl ?_) | ((with_reducible refine wc_seq ?_); intro K hK) | (refine auC ?_) | (refine wc_cond rfl (fun hc => ?_) (fun hc => ?_)) | (refine wc_draw (by kernel_rfl) (by kernel_rfl) (by decide +kernel) ?_; intro w0 hw0 hm0; (try simp only [List.append_eq, List.cons_append, List.nil_append])) | (refine auP ?_) | ((refine auR ?_); clear hK K) | (refine auR ?_) | ((with_reducible refine hK _ _ ?_); clear hK K) | fail)
      subst hx
      repeat' (first | (refine wlS ?_) | (refine wlB ?_) | (refine wlPNN ?_) | (refine wlE ?_) | (refine efSvao ?_; intro v oa ho) | ((with_reducible refine sel_call ?_); first | (refine wl_newO rfl rfl rfl rfl rfl (fun w hm => by with_reducible exact M1 w (Vw.out w hm) (hm.below rfl) (VwT.out w hm)) ?_; intro x oa hx)) | (refine efBnn ?_; intro n hn) | (refine efB ?_) | (refine efBS ?_) | (refine wl_skip rfl rfl ?_) | ((with_reducible refine wc_seq ?_); intro K hK) | (refine auC ?_) | (refine wc_cond rfl (fun hc => ?_) (fun hc => ?_)) | (refine wc_draw (by kernel_rfl) (by kernel_rfl) (by decide +kernel) ?_; intro w0 hw0 hm0; (try simp only [List.append_eq, List.cons_append, List.nil_append])) | (refine auP ?_) | ((refine auR ?_); clear hK K) | (refine auR ?_) | ((with_reducible refine hK _ _ ?_); clear hK K) | fail)
      subst hx
      repeat' (first | (refine wlS ?_) | (refine wlB ?_) | (refine wlPNN ?_) | (refine wlE ?_) | (refine efSvao ?_; intro v oa ho) | (refine efBnn ?_; intro n hn) | (refine efB ?_) | (refine efBS ?_) | (refine wl_skip rfl rfl ?_) | ((with_reducible refine wc_seq ?_); intro K hK) | (refine auC ?_) | (refine wc_cond rfl (fun hc => ?_) (fun hc => ?_)) | (refine wc_draw (by kernel_rfl) (by kernel_rfl) (by decide +kernel) ?_; intro w0 hw0 hm0; (try simp only [List.append_eq, List.cons_append, List.nil_append])) | (refine auP ?_) | ((refine auR ?_); clear hK K) | (refine auR ?_) | ((with_reducible refine hK _ _ ?_); clear hK K) | fail)
      first | refine end_ret (ResP.tmp rfl ResP.nil) ?_ | refine end_normal (ResP.tmp rfl ResP.nil) ?_
      first | rfl | (show _ = _; rfl) | (simp only [tupV, *]; done)
end Go.Proofs.Ytjianfhodjapgaa.StoreHidesWalk
