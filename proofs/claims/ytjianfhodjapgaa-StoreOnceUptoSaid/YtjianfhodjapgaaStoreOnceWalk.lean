/- StoreOnce: the walk. -/
import Derived.Test.YtjianfhodjapgaaJnAC
namespace Go.Proofs.Ytjianfhodjapgaa.StoreOnceWalk
open Go.RowKit
set_option linter.unusedVariables false
set_option linter.unusedSimpArgs false
/-- The loop's state. -/
structure OnS where
  i : Nat
  S : Sto
  ob : Blks
structure OnS.Ok (most : Int) (n : Nat) (x : OnS) : Prop where
  le : x.i ≤ n
  ok : StoOk x.S
  most : x.S.most = most
  next : x.S.next ≤ 61
  nx : x.S.next ≤ (x.i : Int) + 1
  kp : KpF x.ob x.S.m
set_option maxRecDepth 100000 in
set_option maxHeartbeats 8000000 in
theorem walk (w : World) (most : Int) (hmw : (Lit.int .i64 most).wf = true) {vl : Value} {l : List At2} (hl : AtsL w vl l) {k : Nat} (hsz : SmL k l) {vd : Value} {ds : List Int} (hd : Cs w vd ds.length (ds.map (Value.int .i64)) ∧ ∀ z ∈ ds, -9223372036854775808 ≤ z ∧ z < 9223372036854775808) (hk : k ≤ 1048576) :
    Calls Try.prog 4 [.int .i64 most, vl, vd].toArray w (Ret (.bool true) w) := by
  haveI i0 := hl.cs.old
  haveI i1 := hd.1.old
  have hdl := hd.1.ln
  by_cases hbad : most < 1 ∨ 16 < most
  · have NN := fun w' => new_no w' hbad
    have t1 : ((1 : Int) != 0) = true := rfl
    clear hl hsz hd hbad
    refine fn_ret (N := _) Try.func4 rfl Try.ntmps4 Try.results4 (by simp) ?_
    simp only [initS, Nat.reduceAdd, Nat.zero_add]
    repeat' (first | (refine wlS ?_) | (refine wlB ?_) | ((with_reducible refine sel_call ?_); refine wl_rd rfl rfl (rd_call rfl rfl rfl (fun w hm => by with_reducible exact NN w)) ?_) | (refine wlPNN ?_) | (refine wlE ?_) | (refine efSvao ?_; intro v oa ho) | (refine efBnn ?_; intro n hn) | (refine efB ?_) | (refine efBS ?_) | (refine wl_skip rfl rfl ?_) | ((with_reducible refine wc_seq ?_); intro K hK) | (refine auC ?_) | (refine wc_cond rfl (fun hc => ?_) (fun hc => ?_)) | (refine wc_draw (by kernel_rfl) (by kernel_rfl) (by decide +kernel) ?_; intro w0 hw0 hm0; (try simp only [List.append_eq, List.cons_append, List.nil_append])) | (refine auP ?_) | ((refine auR ?_); clear hK K) | (refine auR ?_) | ((with_reducible refine hK _ _ ?_); clear hK K) | fail)
    first | refine end_ret (ResP.tmp rfl ResP.nil) ?_ | refine end_normal (ResP.tmp rfl ResP.nil) ?_
    first | rfl | (show _ = _; rfl) | (simp only [tupV, *]; done)
  have NC := fun w' => new_ok w' (most := most) (by omega)
  have t0 : ((0 : Int) != 0) = false := rfl
  by_cases hbig : l.length > 60
  · have t1 : decide ((l.length : Int) > 60) = true := decide_eq_true (by omega)
    clear hl hsz hd hbad
    refine fn_ret (N := _) Try.func4 rfl Try.ntmps4 Try.results4 (by simp) ?_
    simp only [initS, Nat.reduceAdd, Nat.zero_add]
    repeat' (first | (refine wlS ?_) | (refine wlB ?_) | (refine wlPN ?_) | (refine wlE ?_) | (refine efSvao ?_; intro v oa ho) | ((with_reducible refine sel_call ?_); first | (refine wl_newO rfl rfl rfl rfl rfl (fun w hm => by with_reducible exact NC w) ?_; intro x oa hx)) | (refine efBnn ?_; intro n hn) | (refine efB ?_) | (refine efBS ?_) | (refine wl_skip rfl rfl ?_) | ((with_reducible refine wc_seq ?_); intro K hK) | (refine auC ?_) | (refine wc_cond rfl (fun hc => ?_) (fun hc => ?_)) | (refine wc_draw (by kernel_rfl) (by kernel_rfl) (by decide +kernel) ?_; intro w0 hw0 hm0; (try simp only [List.append_eq, List.cons_append, List.nil_append])) | (refine auP ?_) | ((refine auR ?_); clear hK K) | (refine auR ?_) | ((with_reducible refine hK _ _ ?_); clear hK K) | fail)
    first | refine end_ret (ResP.tmp rfl ResP.nil) ?_ | refine end_normal (ResP.tmp rfl ResP.nil) ?_
    first | rfl | (show _ = _; rfl) | (simp only [tupV, *]; done)
  have t1 : decide ((l.length : Int) > 60) = false := decide_eq_false (by omega)
  have hbody := hl.body
  have hsm : ∀ x ∈ l, Small x.2 := fun x hx => (hsz.each x hx).small hk
  clear hbad hl hsz hd
  refine fn_ret (N := _) Try.func4 rfl Try.ntmps4 Try.results4 (by simp) ?_
  simp only [initS, Nat.reduceAdd, Nat.zero_add]
  repeat' (first | (refine wlS ?_) | (refine wlB ?_) | (refine wlPN ?_) | (refine wlE ?_) | (refine efSvao ?_; intro v oa ho) | ((with_reducible refine sel_call ?_); first | (refine wl_newO rfl rfl rfl rfl rfl (fun w hm => by with_reducible exact NC w) ?_; intro x oa hx)) | (refine efBnn ?_; intro n hn) | (refine efB ?_) | (refine efBS ?_) | (refine wl_skip rfl rfl ?_) | ((with_reducible refine wc_seq ?_); intro K hK) | (refine auC ?_) | (refine wc_cond rfl (fun hc => ?_) (fun hc => ?_)) | (refine wc_draw (by kernel_rfl) (by kernel_rfl) (by decide +kernel) ?_; intro w0 hw0 hm0; (try simp only [List.append_eq, List.cons_append, List.nil_append])) | (refine auP ?_) | ((refine auR ?_); clear hK K) | (refine auR ?_) | ((with_reducible refine hK _ _ ?_); clear hK K) | fail)
  obtain ⟨g, S0, ob0, hbg, rfl, hS, hSm, hSn, hKp, hab⟩ := hx
  obtain ⟨b, rfl⟩ : ∃ b, b = x := ⟨x, rfl⟩
  clear NC
  refine wc_loop (σ := OnS) (fun x => [(0, .int .i64 most), (1, vl), (2, vd), (7, ptr b), (9, .int .i64 (x.S.next - 1)), (45, vl), (46, .int .i64 (l.length : Int)), (47, .int .i64 (x.i : Int))]) (fun x => stoB b g x.S ++ x.ob) (OnS.Ok most l.length) (fun x => l.length - x.i) ⟨0, S0, ob0⟩ ⟨Nat.zero_le _, hS, hSm, by dsimp only; omega, by dsimp only; omega, hKp⟩
    (Fits.of ⟨rfl, rfl, rfl, rfl, by rw [hSn]; rfl, rfl, rfl, rfl, trivial⟩ (SubL.refl _) rfl) ?_
  clear hS hSm hSn hKp hab
  rintro ⟨i, S, ob⟩ ⟨hi, hS, hSm, hn61, hni, hKp⟩
  dsimp only at hi hS hSm hn61 hni hKp ⊢
  by_cases hlt : i < l.length
  · obtain ⟨⟨vx, its⟩, hlx⟩ : ∃ x, l[i]? = some x := ⟨l[i]'hlt, List.getElem?_eq_getElem _⟩
    have hax := hbody _ (List.mem_of_getElem? hlx)
    have hsx := hsm _ (List.mem_of_getElem? hlx)
    dsimp only at hax hsx
    have hvx : (l.map (·.1))[i]? = some vx := by rw [List.getElem?_map, hlx]; rfl
    obtain ⟨px, cx, hv, _⟩ := hax.cs.ln.out
    subst hv
    haveI hA := hax.old
    have u1 : decide ((i : Int) < (l.length : Int)) = true := decide_eq_true (by omega)
    have u2 : IntKind.i64.wrap ((i : Int) + 1) = ((i + 1 : Nat) : Int) := by rw [wrap_i64 _ (by omega) (by omega)]; omega
    have j1 : (i : Int) < (l.length : Int) := by omega
    --ROUND
    have hfo : ∀ w', Mem ⟨Try.prog, w, 129, []⟩ (stoB b g S ++ ob) w' → ∀ k ∈ keys (stoB b g S), w.heap.size ≤ k := fun w' hm => Mem.freshS hm
    by_cases hful : (S.m.length : Int) < S.most
    · have PK := fun w' (h1 : Hd (stoB b g S) w') (h2 : Below w.heap.size w w') (h3 : ∀ k ∈ keys (stoB b g S), w.heap.size ≤ k) => put_ok w' hbg h1 hS h2 h3 hax hsx (o := (i : Int)) hful (by omega)
      have hno : ∀ x ∈ S.m, x.1 < S.next := fun x hx => (hS.pos x hx).2
      have hadd : ∀ vv it2, StoOk (putS S (i : Int) vv it2) := fun vv it2 => hS.add (nx := S.next + 1) hful hS.next0 hno (by omega) (by omega) (by omega)
      have hnx0 := hS.next0
      clear hS
      repeat' (first | (refine wlS ?_) | (refine wlB ?_) | (refine wlE ?_) | (refine efSvao ?_; intro v oa ho) | ((with_reducible refine sel_call ?_); first | (refine wl_updO rfl rfl rfl rfl rfl (fun w hm hw => by with_reducible exact PK w hw (hm.below rfl) (Mem.freshS hm)) ?_; intro x oa hx)) | (refine efBnn ?_; intro n hn) | (refine efB ?_) | (refine efBS ?_) | (refine wl_skip rfl rfl ?_) | ((with_reducible refine wc_seq ?_); intro K hK) | (refine auC ?_) | (refine wc_cond rfl (fun hc => ?_) (fun hc => ?_)) | (refine wc_draw (by kernel_rfl) (by kernel_rfl) (by decide +kernel) ?_; intro w0 hw0 hm0; (try simp only [List.append_eq, List.cons_append, List.nil_append])) | (refine auP ?_) | ((refine auR ?_); clear hK K) | (refine auR ?_) | ((with_reducible refine hK _ _ ?_); clear hK K) | fail)
      obtain ⟨vv, it2, oc, rfl, hT, hab⟩ := hx
      obtain ⟨S1, hS1e⟩ : ∃ S1, putS S (i : Int) vv it2 = S1 := ⟨_, rfl⟩
      have hS1 := hadd vv it2
      have hsm2 := small_abs hab hsx
      have hKp1 : KpF (oc ++ ob) (putS S (i : Int) vv it2).m := (hKp.more fun p hp => List.mem_append_right _ hp).app fun y hy => by
        simp only [List.mem_singleton] at hy
        subst hy
        exact ⟨hT.atf.weak fun w hw => hw.left, hsm2⟩
      have hkg1 : kget (putS S (i : Int) vv it2).m S.next = some (S.next, (i : Int), vv, it2, S.clock) := kget_of hS1.keys (List.mem_append_right _ (List.mem_singleton.2 rfl))
      have hm1 : (putS S (i : Int) vv it2).most = most := hSm
      have hnx1 : (putS S (i : Int) vv it2).next = S.next + 1 := rfl
      rw [hS1e] at hS1 hKp1 hkg1 hm1 hnx1 ⊢
      have hn1 : S1.next ≤ 61 := by omega
      have hni1 : S1.next ≤ ((i + 1 : Nat) : Int) + 1 := by omega
      haveI hTa := hT.atf
      have GS := fun w' (h1 : Hd (stoB b g S1) w') (h2 : Ats w' vv it2) => get_s w' h1 hkg1 h2 hsm2
      have w1 : decide (S.next ≤ S.next - 1) = false := decide_eq_false (by omega)
      have w2 : (S.next != S.next) = false := by simp
      have w3 : ((i : Int) != (i : Int)) = false := by simp
      have w4 : (!true) = false := rfl
      clear PK hS1e hno hadd hKp hSm
      rw [List.append_assoc]
      repeat' (first | (refine wlS ?_) | (refine wlB ?_) | (refine wlE ?_) | (refine efSvao ?_; intro v oa ho) | (refine efZCnn ?_; intro n hn) | ((with_reducible refine sel_call ?_); first | (refine wl_newO rfl rfl rfl rfl rfl (fun w hm => by with_reducible exact GS w (Mem.hd hm) (VwT.out w hm)) ?_; intro x oa hx)) | (refine efBnn ?_; intro n hn) | (refine efB ?_) | (refine efBS ?_) | (refine wl_skip rfl rfl ?_) | ((with_reducible refine wc_seq ?_); intro K hK) | (refine auC ?_) | (refine wc_cond rfl (fun hc => ?_) (fun hc => ?_)) | (refine wc_draw (by kernel_rfl) (by kernel_rfl) (by decide +kernel) ?_; intro w0 hw0 hm0; (try simp only [List.append_eq, List.cons_append, List.nil_append])) | (refine auP ?_) | ((refine auR ?_); clear hK K) | (refine auR ?_) | ((with_reducible refine hK _ _ ?_); clear hK K) | fail)
      obtain ⟨it3, hT3, hab3⟩ := hx
      haveI hTb := hT3.atf
      have SA := fun w' {v : Value} (h1 : Ats w' v it3) (h2 : Ats w' (.slice px its.length cx) its) => sameA_c w' h1 h2 (r := true) (by rw [hab3, hab]; simp)
      clear GS
      have hd0 := hS1.keys
      by_cases hdr : i < ds.length
      · obtain ⟨d, hdd⟩ : ∃ d, ds[i]? = some d := ⟨ds[i], List.getElem?_eq_getElem hdr⟩
        have g0 : (ds.map (Value.int .i64))[i]? = some (.int .i64 d) := map_at hdd
        have v1 : decide ((i : Int) < (ds.length : Int)) = true := decide_eq_true (by omega)
        have j3 : (i : Int) < (ds.length : Int) := by omega
        cases hkg : kget (S1).m d with
        | none =>
          have DN := fun w' (h1 : Hd (stoB b g (S1)) w') => drop_no w' hbg h1 hkg
          have GN := fun w' (h1 : Hd (stoB b g (S1)) w') => get_n w' h1 hkg
          clear hdd hkg hbody hsm
          repeat' (first | (refine wlS ?_) | (refine wlB ?_) | ((with_reducible refine sel_call ?_); refine wl_rd rfl rfl (rd_call rfl rfl rfl (fun w hm => by with_reducible exact SA w (VwT.out w hm) (VwT.out w hm))) ?_) | (refine wlE ?_) | (refine efSvao ?_; intro v oa ho) | (refine efZCnn ?_; intro n hn) | (refine efBnn ?_; intro n hn) | (refine efB ?_) | (refine efBS ?_) | (refine wl_skip rfl rfl ?_) | ((with_reducible refine wc_seq ?_); intro K hK) | (refine auC ?_) | (refine wc_cond rfl (fun hc => ?_) (fun hc => ?_)) | (refine wc_draw (by kernel_rfl) (by kernel_rfl) (by decide +kernel) ?_; intro w0 hw0 hm0; (try simp only [List.append_eq, List.cons_append, List.nil_append])) | (refine auP ?_) | ((refine auR ?_); clear hK K) | (refine auR ?_) | ((with_reducible refine hK _ _ ?_); clear hK K) | fail)
          repeat' (first | (refine wlS ?_) | (refine wlB ?_) | (refine wlE ?_) | (refine efSvao ?_; intro v oa ho) | ((with_reducible refine sel_call ?_); first | (refine wl_updO rfl rfl rfl rfl rfl (fun w hm hw => by with_reducible exact DN w hw) ?_; intro x oa hx)) | (refine efBnn ?_; intro n hn) | (refine efB ?_) | (refine efBS ?_) | (refine wl_skip rfl rfl ?_) | ((with_reducible refine wc_seq ?_); intro K hK) | (refine auC ?_) | (refine wc_cond rfl (fun hc => ?_) (fun hc => ?_)) | (refine wc_draw (by kernel_rfl) (by kernel_rfl) (by decide +kernel) ?_; intro w0 hw0 hm0; (try simp only [List.append_eq, List.cons_append, List.nil_append])) | (refine auP ?_) | ((refine auR ?_); clear hK K) | (refine auR ?_) | ((with_reducible refine hK _ _ ?_); clear hK K) | fail)
          subst hx
          repeat' (first | (refine wlS ?_) | (refine wlB ?_) | (refine wlE ?_) | (refine efSvao ?_; intro v oa ho) | (refine efZCnn ?_; intro n hn) | ((with_reducible refine sel_call ?_); first | (refine wl_newO rfl rfl rfl rfl rfl (fun w hm => by with_reducible exact GN w (Mem.hd hm)) ?_; intro x oa hx)) | (refine efBnn ?_; intro n hn) | (refine efB ?_) | (refine efBS ?_) | (refine wl_skip rfl rfl ?_) | ((with_reducible refine wc_seq ?_); intro K hK) | (refine auC ?_) | (refine wc_cond rfl (fun hc => ?_) (fun hc => ?_)) | (refine wc_draw (by kernel_rfl) (by kernel_rfl) (by decide +kernel) ?_; intro w0 hw0 hm0; (try simp only [List.append_eq, List.cons_append, List.nil_append])) | (refine auP ?_) | ((refine auR ?_); clear hK K) | (refine auR ?_) | ((with_reducible refine hK _ _ ?_); clear hK K) | fail)
          refine ⟨⟨i + 1, S1, oc ++ ob⟩, ⟨hlt, hS1, hm1, hn1, hni1, hKp1⟩, by dsimp only; omega, Fits.of ⟨rfl, rfl, rfl, rfl, (by (try dsimp only); rw [show S1.next - 1 = S.next by omega]; rfl), rfl, rfl, rfl, trivial⟩ ?_ rfl⟩
          dsimp only
          try simp only [List.append_assoc]
          repeat (first | exact SubL.nil | exact SubL.refl _ | refine SubL.keep ?_ | exact SubL.headA _ _ | refine SubL.keepA ?_ _ | refine SubL.skip ?_ | refine SubL.skipA ?_ _)
        | some y =>
          obtain ⟨hym, hyk⟩ := kget_mem hkg
          have DY := fun w' (h1 : Hd (stoB b g (S1)) w') => drop_yes w' hbg h1 hS1 hkg (hKp1 y hym).1.cs.ln
          have hgn : kget (kdel (S1).m d) d = none := kget_none.2 fun x hx e => by
            have := (List.mem_filter.1 hx).2
            rw [e] at this; simp at this
          have hS2 := hS1.del d
          have hKp2 : KpF (oc ++ ob) (kdel (S1).m d) := hKp1.sub fun x hx => (List.mem_filter.1 hx).1
          obtain ⟨S2, hS2e⟩ : ∃ S2 : Sto, S2 = { (S1) with m := kdel (S1).m d } := ⟨_, rfl⟩
          rw [← hS2e] at hS2 DY
          have hm2 : S2.most = most := by rw [hS2e]; exact hm1
          have hn2 : S2.next = (S1).next := by rw [hS2e]
          have hmm2 : S2.m = kdel (S1).m d := by rw [hS2e]
          rw [← hmm2] at hgn hKp2
          have GN := fun w' (h1 : Hd (stoB b g S2) w') => get_n w' h1 hgn
          clear hdd hkg hbody hsm hS2e hgn hmm2
          repeat' (first | (refine wlS ?_) | (refine wlB ?_) | ((with_reducible refine sel_call ?_); refine wl_rd rfl rfl (rd_call rfl rfl rfl (fun w hm => by with_reducible exact SA w (VwT.out w hm) (VwT.out w hm))) ?_) | (refine wlE ?_) | (refine efSvao ?_; intro v oa ho) | (refine efZCnn ?_; intro n hn) | (refine efBnn ?_; intro n hn) | (refine efB ?_) | (refine efBS ?_) | (refine wl_skip rfl rfl ?_) | ((with_reducible refine wc_seq ?_); intro K hK) | (refine auC ?_) | (refine wc_cond rfl (fun hc => ?_) (fun hc => ?_)) | (refine wc_draw (by kernel_rfl) (by kernel_rfl) (by decide +kernel) ?_; intro w0 hw0 hm0; (try simp only [List.append_eq, List.cons_append, List.nil_append])) | (refine auP ?_) | ((refine auR ?_); clear hK K) | (refine auR ?_) | ((with_reducible refine hK _ _ ?_); clear hK K) | fail)
          repeat' (first | (refine wlS ?_) | (refine wlB ?_) | (refine wlE ?_) | (refine efSvao ?_; intro v oa ho) | ((with_reducible refine sel_call ?_); first | (refine wl_updO rfl rfl rfl rfl rfl (fun w hm hw => by with_reducible exact DY w hw) ?_; intro x oa hx)) | (refine efBnn ?_; intro n hn) | (refine efB ?_) | (refine efBS ?_) | (refine wl_skip rfl rfl ?_) | ((with_reducible refine wc_seq ?_); intro K hK) | (refine auC ?_) | (refine wc_cond rfl (fun hc => ?_) (fun hc => ?_)) | (refine wc_draw (by kernel_rfl) (by kernel_rfl) (by decide +kernel) ?_; intro w0 hw0 hm0; (try simp only [List.append_eq, List.cons_append, List.nil_append])) | (refine auP ?_) | ((refine auR ?_); clear hK K) | (refine auR ?_) | ((with_reducible refine hK _ _ ?_); clear hK K) | fail)
          subst hx
          repeat' (first | (refine wlS ?_) | (refine wlB ?_) | (refine wlE ?_) | (refine efSvao ?_; intro v oa ho) | (refine efZCnn ?_; intro n hn) | ((with_reducible refine sel_call ?_); first | (refine wl_newO rfl rfl rfl rfl rfl (fun w hm => by with_reducible exact GN w (Mem.hd hm)) ?_; intro x oa hx)) | (refine efBnn ?_; intro n hn) | (refine efB ?_) | (refine efBS ?_) | (refine wl_skip rfl rfl ?_) | ((with_reducible refine wc_seq ?_); intro K hK) | (refine auC ?_) | (refine wc_cond rfl (fun hc => ?_) (fun hc => ?_)) | (refine wc_draw (by kernel_rfl) (by kernel_rfl) (by decide +kernel) ?_; intro w0 hw0 hm0; (try simp only [List.append_eq, List.cons_append, List.nil_append])) | (refine auP ?_) | ((refine auR ?_); clear hK K) | (refine auR ?_) | ((with_reducible refine hK _ _ ?_); clear hK K) | fail)
          refine ⟨⟨i + 1, S2, oc ++ ob⟩, ⟨hlt, hS2, hm2, by rw [hn2]; exact hn1, by rw [hn2]; exact hni1, hKp2⟩, by dsimp only; omega, Fits.of ⟨rfl, rfl, rfl, rfl, by dsimp only; rw [hn2]; exact (by (try dsimp only); rw [show S1.next - 1 = S.next by omega]; rfl), rfl, rfl, rfl, trivial⟩ ?_ rfl⟩
          dsimp only
          try simp only [List.append_assoc]
          repeat (first | exact SubL.nil | exact SubL.refl _ | refine SubL.keep ?_ | exact SubL.headA _ _ | refine SubL.keepA ?_ _ | refine SubL.skip ?_ | refine SubL.skipA ?_ _)
      · have v1 : decide ((i : Int) < (ds.length : Int)) = false := decide_eq_false (by omega)
        clear hbody hsm
        repeat' (first | (refine wlS ?_) | (refine wlB ?_) | ((with_reducible refine sel_call ?_); refine wl_rd rfl rfl (rd_call rfl rfl rfl (fun w hm => by with_reducible exact SA w (VwT.out w hm) (VwT.out w hm))) ?_) | (refine wlE ?_) | (refine efSvao ?_; intro v oa ho) | (refine efZCnn ?_; intro n hn) | (refine efBnn ?_; intro n hn) | (refine efB ?_) | (refine efBS ?_) | (refine wl_skip rfl rfl ?_) | ((with_reducible refine wc_seq ?_); intro K hK) | (refine auC ?_) | (refine wc_cond rfl (fun hc => ?_) (fun hc => ?_)) | (refine wc_draw (by kernel_rfl) (by kernel_rfl) (by decide +kernel) ?_; intro w0 hw0 hm0; (try simp only [List.append_eq, List.cons_append, List.nil_append])) | (refine auP ?_) | ((refine auR ?_); clear hK K) | (refine auR ?_) | ((with_reducible refine hK _ _ ?_); clear hK K) | fail)
        refine ⟨⟨i + 1, S1, oc ++ ob⟩, ⟨hlt, hS1, hm1, hn1, hni1, hKp1⟩, by dsimp only; omega, Fits.of ⟨rfl, rfl, rfl, rfl, (by (try dsimp only); rw [show S1.next - 1 = S.next by omega]; rfl), rfl, rfl, rfl, trivial⟩ ?_ rfl⟩
        dsimp only
        try simp only [List.append_assoc]
        repeat (first | exact SubL.nil | exact SubL.refl _ | refine SubL.keep ?_ | exact SubL.headA _ _ | refine SubL.keepA ?_ _ | refine SubL.skip ?_ | refine SubL.skipA ?_ _)
    · have hlen : (S.m.length : Int) = S.most := by have := hS.few; omega
      have PF := fun w' (h1 : Hd (stoB b g S) w') => put_full w' hbg h1 (v := .slice px its.length cx) (o := (i : Int)) (.inl (by omega))
      have LS := fun w' (h1 : Hd (stoB b g S) w') (h2 : Hd ob w') => list_s w' h1 h2 hS hKp
      have tf : ((7 : Int) == 0) = false := rfl
      have tf2 : ((7 : Int) != 7) = false := rfl
      repeat' (first | (refine wlS ?_) | (refine wlB ?_) | (refine wlE ?_) | (refine efSvao ?_; intro v oa ho) | ((with_reducible refine sel_call ?_); first | (refine wl_updO rfl rfl rfl rfl rfl (fun w hm hw => by with_reducible exact PF w hw) ?_; intro x oa hx)) | (refine efBnn ?_; intro n hn) | (refine efB ?_) | (refine efBS ?_) | (refine wl_skip rfl rfl ?_) | ((with_reducible refine wc_seq ?_); intro K hK) | (refine auC ?_) | (refine wc_cond rfl (fun hc => ?_) (fun hc => ?_)) | (refine wc_draw (by kernel_rfl) (by kernel_rfl) (by decide +kernel) ?_; intro w0 hw0 hm0; (try simp only [List.append_eq, List.cons_append, List.nil_append])) | (refine auP ?_) | ((refine auR ?_); clear hK K) | (refine auR ?_) | ((with_reducible refine hK _ _ ?_); clear hK K) | fail)
      subst hx
      repeat' (first | (refine wlS ?_) | (refine wlB ?_) | (refine wlE ?_) | (refine efSvao ?_; intro v oa ho) | ((with_reducible refine sel_call ?_); first | (refine wl_newO rfl rfl rfl rfl rfl (fun w hm => by with_reducible exact LS w (Mem.hd hm) (Mem.hd hm)) ?_; intro x oa hx)) | (refine efBnn ?_; intro n hn) | (refine efB ?_) | (refine efBS ?_) | (refine wl_skip rfl rfl ?_) | ((with_reducible refine wc_seq ?_); intro K hK) | (refine auC ?_) | (refine wc_cond rfl (fun hc => ?_) (fun hc => ?_)) | (refine wc_draw (by kernel_rfl) (by kernel_rfl) (by decide +kernel) ?_; intro w0 hw0 hm0; (try simp only [List.append_eq, List.cons_append, List.nil_append])) | (refine auP ?_) | ((refine auR ?_); clear hK K) | (refine auR ?_) | ((with_reducible refine hK _ _ ?_); clear hK K) | fail)
      obtain ⟨hs, hOH, hah⟩ := hx
      have hhl : hs.length = S.m.length := by have := congrArg List.length hah; rwa [List.length_map, List.length_map] at this
      haveI hcs := hOH.cs
      rw [hhl] at hcs
      have w1 : ((S.m.length : Int) != most) = false := by rw [hlen, hSm]; simp
      have hS1 := hS
      have hm1 := hSm
      have hn1 := hn61
      have hni1 : S.next ≤ ((i + 1 : Nat) : Int) + 1 := by omega
      have hKp1 := hKp
      clear PF LS
      have hd0 := hS1.keys
      by_cases hdr : i < ds.length
      · obtain ⟨d, hdd⟩ : ∃ d, ds[i]? = some d := ⟨ds[i], List.getElem?_eq_getElem hdr⟩
        have g0 : (ds.map (Value.int .i64))[i]? = some (.int .i64 d) := map_at hdd
        have v1 : decide ((i : Int) < (ds.length : Int)) = true := decide_eq_true (by omega)
        have j3 : (i : Int) < (ds.length : Int) := by omega
        cases hkg : kget (S).m d with
        | none =>
          have DN := fun w' (h1 : Hd (stoB b g (S)) w') => drop_no w' hbg h1 hkg
          have GN := fun w' (h1 : Hd (stoB b g (S)) w') => get_n w' h1 hkg
          clear hdd hkg hbody hsm
          repeat' (first | (refine wlS ?_) | (refine wlB ?_) | (refine wlE ?_) | (refine efSvao ?_; intro v oa ho) | (refine efBnn ?_; intro n hn) | (refine efB ?_) | (refine efBS ?_) | (refine wl_skip rfl rfl ?_) | ((with_reducible refine wc_seq ?_); intro K hK) | (refine auC ?_) | (refine wc_cond rfl (fun hc => ?_) (fun hc => ?_)) | (refine wc_draw (by kernel_rfl) (by kernel_rfl) (by decide +kernel) ?_; intro w0 hw0 hm0; (try simp only [List.append_eq, List.cons_append, List.nil_append])) | (refine auP ?_) | ((refine auR ?_); clear hK K) | (refine auR ?_) | ((with_reducible refine hK _ _ ?_); clear hK K) | fail)
          repeat' (first | (refine wlS ?_) | (refine wlB ?_) | (refine wlE ?_) | (refine efSvao ?_; intro v oa ho) | ((with_reducible refine sel_call ?_); first | (refine wl_updO rfl rfl rfl rfl rfl (fun w hm hw => by with_reducible exact DN w hw) ?_; intro x oa hx)) | (refine efBnn ?_; intro n hn) | (refine efB ?_) | (refine efBS ?_) | (refine wl_skip rfl rfl ?_) | ((with_reducible refine wc_seq ?_); intro K hK) | (refine auC ?_) | (refine wc_cond rfl (fun hc => ?_) (fun hc => ?_)) | (refine wc_draw (by kernel_rfl) (by kernel_rfl) (by decide +kernel) ?_; intro w0 hw0 hm0; (try simp only [List.append_eq, List.cons_append, List.nil_append])) | (refine auP ?_) | ((refine auR ?_); clear hK K) | (refine auR ?_) | ((with_reducible refine hK _ _ ?_); clear hK K) | fail)
          subst hx
          repeat' (first | (refine wlS ?_) | (refine wlB ?_) | (refine wlE ?_) | (refine efSvao ?_; intro v oa ho) | (refine efZCnn ?_; intro n hn) | ((with_reducible refine sel_call ?_); first | (refine wl_newO rfl rfl rfl rfl rfl (fun w hm => by with_reducible exact GN w (Mem.hd hm)) ?_; intro x oa hx)) | (refine efBnn ?_; intro n hn) | (refine efB ?_) | (refine efBS ?_) | (refine wl_skip rfl rfl ?_) | ((with_reducible refine wc_seq ?_); intro K hK) | (refine auC ?_) | (refine wc_cond rfl (fun hc => ?_) (fun hc => ?_)) | (refine wc_draw (by kernel_rfl) (by kernel_rfl) (by decide +kernel) ?_; intro w0 hw0 hm0; (try simp only [List.append_eq, List.cons_append, List.nil_append])) | (refine auP ?_) | ((refine auR ?_); clear hK K) | (refine auR ?_) | ((with_reducible refine hK _ _ ?_); clear hK K) | fail)
          refine ⟨⟨i + 1, S, ob⟩, ⟨hlt, hS1, hm1, hn1, hni1, hKp1⟩, by dsimp only; omega, Fits.of ⟨rfl, rfl, rfl, rfl, rfl, rfl, rfl, rfl, trivial⟩ ?_ rfl⟩
          dsimp only
          try simp only [List.append_assoc]
          repeat (first | exact SubL.nil | exact SubL.refl _ | refine SubL.keep ?_ | exact SubL.headA _ _ | refine SubL.keepA ?_ _ | refine SubL.skip ?_ | refine SubL.skipA ?_ _)
        | some y =>
          obtain ⟨hym, hyk⟩ := kget_mem hkg
          have DY := fun w' (h1 : Hd (stoB b g (S)) w') => drop_yes w' hbg h1 hS1 hkg (hKp1 y hym).1.cs.ln
          have hgn : kget (kdel (S).m d) d = none := kget_none.2 fun x hx e => by
            have := (List.mem_filter.1 hx).2
            rw [e] at this; simp at this
          have hS2 := hS1.del d
          have hKp2 : KpF (ob) (kdel (S).m d) := hKp1.sub fun x hx => (List.mem_filter.1 hx).1
          obtain ⟨S2, hS2e⟩ : ∃ S2 : Sto, S2 = { (S) with m := kdel (S).m d } := ⟨_, rfl⟩
          rw [← hS2e] at hS2 DY
          have hm2 : S2.most = most := by rw [hS2e]; exact hm1
          have hn2 : S2.next = (S).next := by rw [hS2e]
          have hmm2 : S2.m = kdel (S).m d := by rw [hS2e]
          rw [← hmm2] at hgn hKp2
          have GN := fun w' (h1 : Hd (stoB b g S2) w') => get_n w' h1 hgn
          clear hdd hkg hbody hsm hS2e hgn hmm2
          repeat' (first | (refine wlS ?_) | (refine wlB ?_) | (refine wlE ?_) | (refine efSvao ?_; intro v oa ho) | (refine efBnn ?_; intro n hn) | (refine efB ?_) | (refine efBS ?_) | (refine wl_skip rfl rfl ?_) | ((with_reducible refine wc_seq ?_); intro K hK) | (refine auC ?_) | (refine wc_cond rfl (fun hc => ?_) (fun hc => ?_)) | (refine wc_draw (by kernel_rfl) (by kernel_rfl) (by decide +kernel) ?_; intro w0 hw0 hm0; (try simp only [List.append_eq, List.cons_append, List.nil_append])) | (refine auP ?_) | ((refine auR ?_); clear hK K) | (refine auR ?_) | ((with_reducible refine hK _ _ ?_); clear hK K) | fail)
          repeat' (first | (refine wlS ?_) | (refine wlB ?_) | (refine wlE ?_) | (refine efSvao ?_; intro v oa ho) | ((with_reducible refine sel_call ?_); first | (refine wl_updO rfl rfl rfl rfl rfl (fun w hm hw => by with_reducible exact DY w hw) ?_; intro x oa hx)) | (refine efBnn ?_; intro n hn) | (refine efB ?_) | (refine efBS ?_) | (refine wl_skip rfl rfl ?_) | ((with_reducible refine wc_seq ?_); intro K hK) | (refine auC ?_) | (refine wc_cond rfl (fun hc => ?_) (fun hc => ?_)) | (refine wc_draw (by kernel_rfl) (by kernel_rfl) (by decide +kernel) ?_; intro w0 hw0 hm0; (try simp only [List.append_eq, List.cons_append, List.nil_append])) | (refine auP ?_) | ((refine auR ?_); clear hK K) | (refine auR ?_) | ((with_reducible refine hK _ _ ?_); clear hK K) | fail)
          subst hx
          repeat' (first | (refine wlS ?_) | (refine wlB ?_) | (refine wlE ?_) | (refine efSvao ?_; intro v oa ho) | (refine efZCnn ?_; intro n hn) | ((with_reducible refine sel_call ?_); first | (refine wl_newO rfl rfl rfl rfl rfl (fun w hm => by with_reducible exact GN w (Mem.hd hm)) ?_; intro x oa hx)) | (refine efBnn ?_; intro n hn) | (refine efB ?_) | (refine efBS ?_) | (refine wl_skip rfl rfl ?_) | ((with_reducible refine wc_seq ?_); intro K hK) | (refine auC ?_) | (refine wc_cond rfl (fun hc => ?_) (fun hc => ?_)) | (refine wc_draw (by kernel_rfl) (by kernel_rfl) (by decide +kernel) ?_; intro w0 hw0 hm0; (try simp only [List.append_eq, List.cons_append, List.nil_append])) | (refine auP ?_) | ((refine auR ?_); clear hK K) | (refine auR ?_) | ((with_reducible refine hK _ _ ?_); clear hK K) | fail)
          refine ⟨⟨i + 1, S2, ob⟩, ⟨hlt, hS2, hm2, by rw [hn2]; exact hn1, by rw [hn2]; exact hni1, hKp2⟩, by dsimp only; omega, Fits.of ⟨rfl, rfl, rfl, rfl, by dsimp only; rw [hn2]; exact rfl, rfl, rfl, rfl, trivial⟩ ?_ rfl⟩
          dsimp only
          try simp only [List.append_assoc]
          repeat (first | exact SubL.nil | exact SubL.refl _ | refine SubL.keep ?_ | exact SubL.headA _ _ | refine SubL.keepA ?_ _ | refine SubL.skip ?_ | refine SubL.skipA ?_ _)
      · have v1 : decide ((i : Int) < (ds.length : Int)) = false := decide_eq_false (by omega)
        clear hbody hsm
        repeat' (first | (refine wlS ?_) | (refine wlB ?_) | (refine wlE ?_) | (refine efSvao ?_; intro v oa ho) | (refine efBnn ?_; intro n hn) | (refine efB ?_) | (refine efBS ?_) | (refine wl_skip rfl rfl ?_) | ((with_reducible refine wc_seq ?_); intro K hK) | (refine auC ?_) | (refine wc_cond rfl (fun hc => ?_) (fun hc => ?_)) | (refine wc_draw (by kernel_rfl) (by kernel_rfl) (by decide +kernel) ?_; intro w0 hw0 hm0; (try simp only [List.append_eq, List.cons_append, List.nil_append])) | (refine auP ?_) | ((refine auR ?_); clear hK K) | (refine auR ?_) | ((with_reducible refine hK _ _ ?_); clear hK K) | fail)
        refine ⟨⟨i + 1, S, ob⟩, ⟨hlt, hS1, hm1, hn1, hni1, hKp1⟩, by dsimp only; omega, Fits.of ⟨rfl, rfl, rfl, rfl, rfl, rfl, rfl, rfl, trivial⟩ ?_ rfl⟩
        dsimp only
        try simp only [List.append_assoc]
        repeat (first | exact SubL.nil | exact SubL.refl _ | refine SubL.keep ?_ | exact SubL.headA _ _ | refine SubL.keepA ?_ _ | refine SubL.skip ?_ | refine SubL.skipA ?_ _)
  · obtain rfl : i = l.length := by omega
    have u1 : decide ((l.length : Int) < (l.length : Int)) = false := decide_eq_false (by omega)
    have NS := fun w' (h1 : Hd (stoB b g S) w') => next_s w' h1
    have u2 : IntKind.i64.wrap (S.next - 1 + 1) = S.next := by rw [wrap_i64 _ (by have := hS.next0; omega) (by omega)]; omega
    have t5 : (S.next == S.next) = true := by simp
    repeat' (first | (refine wlS ?_) | (refine wlB ?_) | ((with_reducible refine sel_call ?_); refine wl_rd rfl rfl (rd_call rfl rfl rfl (fun w hm => by with_reducible exact NS w (Mem.hd hm))) ?_) | (refine wlE ?_) | (refine efSvao ?_; intro v oa ho) | (refine efBnn ?_; intro n hn) | (refine efB ?_) | (refine efBS ?_) | (refine wl_skip rfl rfl ?_) | ((with_reducible refine wc_seq ?_); intro K hK) | (refine auC ?_) | (refine wc_cond rfl (fun hc => ?_) (fun hc => ?_)) | (refine wc_draw (by kernel_rfl) (by kernel_rfl) (by decide +kernel) ?_; intro w0 hw0 hm0; (try simp only [List.append_eq, List.cons_append, List.nil_append])) | (refine auP ?_) | ((refine auR ?_); clear hK K) | (refine auR ?_) | ((with_reducible refine hK _ _ ?_); clear hK K) | fail)
    first | refine end_ret (ResP.tmp rfl ResP.nil) ?_ | refine end_normal (ResP.tmp rfl ResP.nil) ?_
    first | rfl | (show _ = _; rfl) | (simp only [tupV, *]; done)
end Go.Proofs.Ytjianfhodjapgaa.StoreOnceWalk
