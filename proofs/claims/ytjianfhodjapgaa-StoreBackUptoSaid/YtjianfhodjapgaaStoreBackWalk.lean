/- StoreBack: the walk. -/
import Derived.Test.YtjianfhodjapgaaJnAD
import Derived.Test.YtjianfhodjapgaaJnAC
namespace Go.Proofs.Ytjianfhodjapgaa.StoreBackWalk
open Go.RowKit
set_option linter.unusedVariables false
set_option linter.unusedSimpArgs false
/-- The loops' state. -/
structure BkS where
  i : Nat
  S : Sto
  ob : Blks
structure BkS.Ok (most : Int) (n m : Nat) (x : BkS) : Prop where
  le : x.i ≤ n
  ok : StoOk x.S
  most : x.S.most = most
  nx : x.S.next ≤ (m : Int) + 1
  kp : KpF x.ob x.S.m
set_option maxRecDepth 100000 in
set_option maxHeartbeats 16000000 in
theorem walk (w : World) (most : Int) (hmw : (Lit.int .i64 most).wf = true) {vl : Value} {l : List At2} (hl : AtsL w vl l) {k : Nat} (hsz : SmL k l) {vd : Value} {ds : List Int} (hd : Cs w vd ds.length (ds.map (Value.int .i64)) ∧ ∀ z ∈ ds, -9223372036854775808 ≤ z ∧ z < 9223372036854775808)
    {va : Value} {ask : List Att} (ha : Ats w va ask) {k2 : Nat} (hsa : SmB k2 ask) (hk : k + k2 ≤ 1048576) :
    Calls Try.prog 7 [.int .i64 most, vl, vd, va].toArray w (Ret (.bool true) w) := by
  haveI i0 := hl.cs.old
  haveI i1 := hd.1.old
  have hdl := hd.1.ln
  by_cases hbad : most < 1 ∨ 16 < most
  · have NN := fun w' => new_no w' hbad
    have t1 : ((1 : Int) != 0) = true := rfl
    clear hl hsz hd hbad
    refine fn_ret (N := _) Try.func7 rfl Try.ntmps7 Try.results7 (by simp) ?_
    simp only [initS, Nat.reduceAdd, Nat.zero_add]
    repeat' (first | (refine wlS ?_) | (refine wlB ?_) | ((with_reducible refine sel_call ?_); refine wl_rd rfl rfl (rd_call rfl rfl rfl (fun w hm => by with_reducible exact NN w)) ?_) | (refine wlE ?_) | (refine efSvao ?_; intro v oa ho) | (refine wl_skip rfl rfl ?_) | ((with_reducible refine wc_seq ?_); intro K hK) | (refine auC ?_) | (refine wc_cond rfl (fun hc => ?_) (fun hc => ?_)) | (refine wc_draw (by kernel_rfl) (by kernel_rfl) (by decide +kernel) ?_; intro w0 hw0 hm0; (try simp only [List.append_eq, List.cons_append, List.nil_append])) | (refine auP ?_) | ((refine auR ?_); clear hK K) | (refine auR ?_) | ((with_reducible refine hK _ _ ?_); clear hK K) | fail)
    first | refine end_ret (ResP.tmp rfl ResP.nil) ?_ | refine end_normal (ResP.tmp rfl ResP.nil) ?_
    first | rfl | (show _ = _; rfl) | (simp only [tupV, *]; done)
  have NC := fun w' => new_ok w' (most := most) (by omega)
  have t0 : ((0 : Int) != 0) = false := rfl
  by_cases hbig : l.length > 60
  · have t1 : decide ((l.length : Int) > 60) = true := decide_eq_true (by omega)
    clear hl hsz hd hbad
    refine fn_ret (N := _) Try.func7 rfl Try.ntmps7 Try.results7 (by simp) ?_
    simp only [initS, Nat.reduceAdd, Nat.zero_add]
    repeat' (first | (refine wlS ?_) | (refine wlB ?_) | (refine wlPN ?_) | (refine wlE ?_) | (refine efSvao ?_; intro v oa ho) | ((with_reducible refine sel_call ?_); first | (refine wl_newO rfl rfl rfl rfl rfl (fun w hm => by with_reducible exact NC w) ?_; intro x oa hx)) | (refine wl_skip rfl rfl ?_) | ((with_reducible refine wc_seq ?_); intro K hK) | (refine auC ?_) | (refine wc_cond rfl (fun hc => ?_) (fun hc => ?_)) | (refine wc_draw (by kernel_rfl) (by kernel_rfl) (by decide +kernel) ?_; intro w0 hw0 hm0; (try simp only [List.append_eq, List.cons_append, List.nil_append])) | (refine auP ?_) | ((refine auR ?_); clear hK K) | (refine auR ?_) | ((with_reducible refine hK _ _ ?_); clear hK K) | fail)
    first | refine end_ret (ResP.tmp rfl ResP.nil) ?_ | refine end_normal (ResP.tmp rfl ResP.nil) ?_
    first | rfl | (show _ = _; rfl) | (simp only [tupV, *]; done)
  have t1 : decide ((l.length : Int) > 60) = false := decide_eq_false (by omega)
  have hbody := hl.body
  have hsm : ∀ x ∈ l, Small x.2 := fun x hx => (hsz.each x hx).small (by omega)
  have hsA : Small ask := hsa.small (by omega)
  obtain ⟨pa, ca, hva, _⟩ := ha.cs.ln.out
  subst hva
  haveI i2 := ha.old
  haveI i3 := ha.cs.old
  have hbo : ¬ resBad most 1 := by unfold resBad; omega
  clear hbad hl hsz hd
  refine fn_ret (N := _) Try.func7 rfl Try.ntmps7 Try.results7 (by simp) ?_
  simp only [initS, Nat.reduceAdd, Nat.zero_add]
  repeat' (first | (refine wlS ?_) | (refine wlB ?_) | (refine wlPN ?_) | (refine wlE ?_) | (refine efSvao ?_; intro v oa ho) | ((with_reducible refine sel_call ?_); first | (refine wl_newO rfl rfl rfl rfl rfl (fun w hm => by with_reducible exact NC w) ?_; intro x oa hx)) | (refine wl_skip rfl rfl ?_) | ((with_reducible refine wc_seq ?_); intro K hK) | (refine auC ?_) | (refine wc_cond rfl (fun hc => ?_) (fun hc => ?_)) | (refine wc_draw (by kernel_rfl) (by kernel_rfl) (by decide +kernel) ?_; intro w0 hw0 hm0; (try simp only [List.append_eq, List.cons_append, List.nil_append])) | (refine auP ?_) | ((refine auR ?_); clear hK K) | (refine auR ?_) | ((with_reducible refine hK _ _ ?_); clear hK K) | fail)
  obtain ⟨g, S0, ob0, hbg, rfl, hS, hSm, hSn, hKp, hab⟩ := hx
  obtain ⟨b, rfl⟩ : ∃ b, b = x := ⟨x, rfl⟩
  clear NC
  refine wc_loop (σ := BkS) (fun x => [(0, .int .i64 most), (2, vd), (3, .slice pa ask.length ca), (9, ptr b), (44, vl), (45, .int .i64 (l.length : Int)), (46, .int .i64 (x.i : Int))]) (fun x => stoB b g x.S ++ x.ob) (fun x => x.Ok most l.length x.i) (fun x => l.length - x.i) ⟨0, S0, ob0⟩ ⟨Nat.zero_le _, hS, hSm, by dsimp only; omega, hKp⟩
    (Fits.of ⟨rfl, rfl, rfl, rfl, rfl, rfl, rfl, trivial⟩ (SubL.refl _) rfl) ?_
  clear hS hSm hSn hKp hab
  rintro ⟨i, S, ob⟩ ⟨hi, hS, hSm, hni, hKp⟩
  dsimp only at hi hS hSm hni hKp ⊢
  by_cases hlt : i < l.length
  · obtain ⟨⟨vx, its⟩, hlx⟩ : ∃ x, l[i]? = some x := ⟨l[i]'hlt, List.getElem?_eq_getElem _⟩
    have hax := hbody _ (List.mem_of_getElem? hlx)
    have hsx := hsm _ (List.mem_of_getElem? hlx)
    dsimp only at hax hsx
    have hvx : (l.map (·.1))[i]? = some vx := by rw [List.getElem?_map, hlx]; rfl
    obtain ⟨px, cx, hv, _⟩ := hax.cs.ln.out
    subst hv
    haveI hA := hax.old
    have u1 : decide ((i : Int) < (l.length : Int)) = true := decide_eq_true (by omega)
    have u2 : IntKind.i64.wrap ((i : Int) + 1) = ((i + 1 : Nat) : Int) := by rw [wrap_i64 _ (by omega) (by omega)]; omega
    have j1 : (i : Int) < (l.length : Int) := by omega
    by_cases hful : (S.m.length : Int) < S.most
    · have PK := fun w' (h1 : Hd (stoB b g S) w') (h2 : Below w.heap.size w w') (h3 : ∀ k ∈ keys (stoB b g S), w.heap.size ≤ k) => put_ok w' hbg h1 hS h2 h3 hax hsx (o := (its.length : Int)) hful (by omega)
      have hno : ∀ x ∈ S.m, x.1 < S.next := fun x hx => (hS.pos x hx).2
      have hadd : ∀ vv it2, StoOk (putS S (its.length : Int) vv it2) := fun vv it2 => hS.add (nx := S.next + 1) hful hS.next0 hno (by omega) (by omega) (by omega)
      clear hbody hsm
      repeat' (first | (refine wlS ?_) | (refine wlB ?_) | (refine wlE ?_) | (refine efSvao ?_; intro v oa ho) | ((with_reducible refine sel_call ?_); first | (refine wl_updO rfl rfl rfl rfl rfl (fun w hm hw => by with_reducible exact PK w hw (hm.below rfl) (Mem.freshS hm)) ?_; intro x oa hx)) | (refine wl_skip rfl rfl ?_) | ((with_reducible refine wc_seq ?_); intro K hK) | (refine auC ?_) | (refine wc_cond rfl (fun hc => ?_) (fun hc => ?_)) | (refine wc_draw (by kernel_rfl) (by kernel_rfl) (by decide +kernel) ?_; intro w0 hw0 hm0; (try simp only [List.append_eq, List.cons_append, List.nil_append])) | (refine auP ?_) | ((refine auR ?_); clear hK K) | (refine auR ?_) | ((with_reducible refine hK _ _ ?_); clear hK K) | fail)
      obtain ⟨vv, it2, oc, rfl, hT, hab⟩ := hx
      refine ⟨⟨i + 1, putS S (its.length : Int) vv it2, oc ++ ob⟩, ⟨hlt, hadd vv it2, hSm, by show S.next + 1 ≤ _; dsimp only; omega, (hKp.more fun p hp => List.mem_append_right _ hp).app fun y hy => ?_⟩, by dsimp only; omega, Fits.of ⟨rfl, rfl, rfl, rfl, rfl, rfl, rfl, trivial⟩ ?_ rfl⟩
      · simp only [List.mem_singleton] at hy
        subst hy
        exact ⟨hT.atf.weak fun w hw => hw.left, small_abs hab hsx⟩
      · dsimp only
        rw [← List.append_assoc]
        exact SubL.refl _
    · have PF := fun w' (h1 : Hd (stoB b g S) w') => put_full w' hbg h1 (v := .slice px its.length cx) (o := (its.length : Int)) (.inl (by omega))
      clear hbody hsm
      repeat' (first | (refine wlS ?_) | (refine wlB ?_) | (refine wlE ?_) | (refine efSvao ?_; intro v oa ho) | ((with_reducible refine sel_call ?_); first | (refine wl_updO rfl rfl rfl rfl rfl (fun w hm hw => by with_reducible exact PF w hw) ?_; intro x oa hx)) | (refine wl_skip rfl rfl ?_) | ((with_reducible refine wc_seq ?_); intro K hK) | (refine auC ?_) | (refine wc_cond rfl (fun hc => ?_) (fun hc => ?_)) | (refine wc_draw (by kernel_rfl) (by kernel_rfl) (by decide +kernel) ?_; intro w0 hw0 hm0; (try simp only [List.append_eq, List.cons_append, List.nil_append])) | (refine auP ?_) | ((refine auR ?_); clear hK K) | (refine auR ?_) | ((with_reducible refine hK _ _ ?_); clear hK K) | fail)
      subst hx
      refine ⟨⟨i + 1, S, ob⟩, ⟨hlt, hS, hSm, by dsimp only; omega, hKp⟩, by dsimp only; omega, Fits.of ⟨rfl, rfl, rfl, rfl, rfl, rfl, rfl, trivial⟩ (SubL.refl _) rfl⟩
  · obtain rfl : i = l.length := by omega
    have u1 : decide ((l.length : Int) < (l.length : Int)) = false := decide_eq_false (by omega)
    clear hbody hsm
    repeat' (first | (refine wlS ?_) | (refine wlB ?_) | (refine wlE ?_) | (refine efSvao ?_; intro v oa ho) | (refine wl_skip rfl rfl ?_) | ((with_reducible refine wc_seq ?_); intro K hK) | (refine auC ?_) | (refine wc_cond rfl (fun hc => ?_) (fun hc => ?_)) | (refine wc_draw (by kernel_rfl) (by kernel_rfl) (by decide +kernel) ?_; intro w0 hw0 hm0; (try simp only [List.append_eq, List.cons_append, List.nil_append])) | (refine auP ?_) | ((refine auR ?_); clear hK K) | (refine auR ?_) | ((with_reducible refine hK _ _ ?_); clear hK K) | fail)
    refine wc_loop (σ := BkS) (fun x => [(0, .int .i64 most), (3, .slice pa ask.length ca), (9, ptr b), (56, vd), (57, .int .i64 (ds.length : Int)), (58, .int .i64 (x.i : Int))]) (fun x => stoB b g x.S ++ x.ob) (fun x => x.Ok most ds.length l.length) (fun x => ds.length - x.i) ⟨0, S, ob⟩ ⟨Nat.zero_le _, hS, hSm, hni, hKp⟩
      (Fits.of ⟨rfl, rfl, rfl, rfl, rfl, rfl, trivial⟩ (SubL.refl _) rfl) ?_
    clear hS hSm hni hKp
    rintro ⟨i, S, ob⟩ ⟨hi, hS, hSm, hni, hKp⟩
    dsimp only at hi hS hSm hni hKp ⊢
    by_cases hlt : i < ds.length
    · obtain ⟨d, hdd⟩ : ∃ d, ds[i]? = some d := ⟨ds[i], List.getElem?_eq_getElem hlt⟩
      have g0 : (ds.map (Value.int .i64))[i]? = some (.int .i64 d) := map_at hdd
      have hcap : ds.length ≤ 9223372036854775807 := by obtain ⟨_, _, _, h1, h2, _⟩ := hdl.out; simp only [maxLen] at h2; omega
      have u1 : decide ((i : Int) < (ds.length : Int)) = true := decide_eq_true (by omega)
      have u2 : IntKind.i64.wrap ((i : Int) + 1) = ((i + 1 : Nat) : Int) := by rw [wrap_i64 _ (by omega) (by omega)]; omega
      have j1 : (i : Int) < (ds.length : Int) := by omega
      cases hkg : kget S.m d with
      | none =>
        have DN := fun w' (h1 : Hd (stoB b g S) w') => drop_no w' hbg h1 hkg
        clear hdd hkg
        repeat' (first | (refine wlS ?_) | (refine wlB ?_) | (refine wlE ?_) | (refine efSvao ?_; intro v oa ho) | ((with_reducible refine sel_call ?_); first | (refine wl_updO rfl rfl rfl rfl rfl (fun w hm hw => by with_reducible exact DN w hw) ?_; intro x oa hx)) | (refine wl_skip rfl rfl ?_) | ((with_reducible refine wc_seq ?_); intro K hK) | (refine auC ?_) | (refine wc_cond rfl (fun hc => ?_) (fun hc => ?_)) | (refine wc_draw (by kernel_rfl) (by kernel_rfl) (by decide +kernel) ?_; intro w0 hw0 hm0; (try simp only [List.append_eq, List.cons_append, List.nil_append])) | (refine auP ?_) | ((refine auR ?_); clear hK K) | (refine auR ?_) | ((with_reducible refine hK _ _ ?_); clear hK K) | fail)
        subst hx
        refine ⟨⟨i + 1, S, ob⟩, ⟨hlt, hS, hSm, hni, hKp⟩, by dsimp only; omega, Fits.of ⟨rfl, rfl, rfl, rfl, rfl, rfl, trivial⟩ (SubL.refl _) rfl⟩
      | some y =>
        obtain ⟨hym, hyk⟩ := kget_mem hkg
        have DY := fun w' (h1 : Hd (stoB b g S) w') => drop_yes w' hbg h1 hS hkg (hKp y hym).1.cs.ln
        have hS2 := hS.del d
        have hKp2 : KpF ob (kdel S.m d) := hKp.sub fun x hx => (List.mem_filter.1 hx).1
        clear hdd hkg
        repeat' (first | (refine wlS ?_) | (refine wlB ?_) | (refine wlE ?_) | (refine efSvao ?_; intro v oa ho) | ((with_reducible refine sel_call ?_); first | (refine wl_updO rfl rfl rfl rfl rfl (fun w hm hw => by with_reducible exact DY w hw) ?_; intro x oa hx)) | (refine wl_skip rfl rfl ?_) | ((with_reducible refine wc_seq ?_); intro K hK) | (refine auC ?_) | (refine wc_cond rfl (fun hc => ?_) (fun hc => ?_)) | (refine wc_draw (by kernel_rfl) (by kernel_rfl) (by decide +kernel) ?_; intro w0 hw0 hm0; (try simp only [List.append_eq, List.cons_append, List.nil_append])) | (refine auP ?_) | ((refine auR ?_); clear hK K) | (refine auR ?_) | ((with_reducible refine hK _ _ ?_); clear hK K) | fail)
        subst hx
        refine ⟨⟨i + 1, { S with m := kdel S.m d }, ob⟩, ⟨hlt, hS2, hSm, hni, hKp2⟩, by dsimp only; omega, Fits.of ⟨rfl, rfl, rfl, rfl, rfl, rfl, trivial⟩ (SubL.refl _) rfl⟩
    · obtain rfl : i = ds.length := by omega
      have u1 : decide ((ds.length : Int) < (ds.length : Int)) = false := decide_eq_false (by omega)
      have NS := fun w' (h1 : Hd (stoB b g S) w') => next_s w' h1
      have LS := fun w' (h1 : Hd (stoB b g S) w') (h2 : Hd ob w') => list_s w' h1 h2 hS hKp
      repeat' (first | (refine wlS ?_) | (refine wlB ?_) | ((with_reducible refine sel_call ?_); refine wl_rd rfl rfl (rd_call rfl rfl rfl (fun w hm => by with_reducible exact NS w (Mem.hd hm))) ?_) | (refine wlE ?_) | (refine efSvao ?_; intro v oa ho) | ((with_reducible refine sel_call ?_); first | (refine wl_newO rfl rfl rfl rfl rfl (fun w hm => by with_reducible exact LS w (Mem.hd hm) (Mem.hd hm)) ?_; intro x oa hx)) | (refine wl_skip rfl rfl ?_) | ((with_reducible refine wc_seq ?_); intro K hK) | (refine auC ?_) | (refine wc_cond rfl (fun hc => ?_) (fun hc => ?_)) | (refine wc_draw (by kernel_rfl) (by kernel_rfl) (by decide +kernel) ?_; intro w0 hw0 hm0; (try simp only [List.append_eq, List.cons_append, List.nil_append])) | (refine auP ?_) | ((refine auR ?_); clear hK K) | (refine auR ?_) | ((with_reducible refine hK _ _ ?_); clear hK K) | fail)
      obtain ⟨hs, hOH, hah⟩ := hx
      obtain ⟨u0, rfl⟩ : ∃ u, u = x := ⟨x, rfl⟩
      obtain ⟨oL, rfl⟩ : ∃ o, o = oa := ⟨oa, rfl⟩
      haveI hcs := hOH.cs
      have hbod := hOH.bod
      have hhl : hs.length = S.m.length := by have := congrArg List.length hah; rwa [List.length_map, List.length_map] at this
      have hmh : hs.map (·.1) = S.m.map (·.1) := by
        have := congrArg (List.map (·.1)) hah
        rwa [List.map_map, List.map_map] at this
      have hrise : RiseH hs S.next := ⟨by rw [hmh]; exact hS.rise, fun x hx => by
        have h1 : x.1 ∈ S.m.map (·.1) := by rw [← hmh]; exact List.mem_map_of_mem hx
        obtain ⟨y, hy, he⟩ := List.mem_map.1 h1
        have h2 := hS.pos y hy
        rw [he] at h2
        exact h2⟩
      have hbad2 : ¬ resBad most S.next := by
        have h1 := hS.next0
        have h2 := hS.next1
        unfold resBad at hbo ⊢; omega
      have hfew : (hs.length : Int) ≤ most := by have := hS.few; omega
      have hsm2 : ∀ x ∈ hs, Small x.2.2.2 := fun x hx => by
        have h1 : absH x ∈ S.m.map absK := by rw [← hah]; exact List.mem_map_of_mem hx
        obtain ⟨y, hy, he⟩ := List.mem_map.1 h1
        have h2 : abs x.2.2.2 = abs y.2.2.2.1 := (congrArg (·.2.2) he).symm
        exact small_abs h2 (hKp y hy).2
      have RO := fun w' (h1 : Cs w' u0 hs.length (hesC hs)) (h2 : Hd oL w') => restore_ok w' (most := most) (next := S.next) (v := u0) (l := hs) hbad2 ⟨h1, fun x hx => (hbod x hx).out w' h2⟩ hsm2 (by have := hS.few; have := hS.hi; omega) hrise hfew
      have h16 : S.m.length ≤ 16 := by have := hS.few; have := hS.hi; omega
      have tz : ((0 : Int) == 0) = true := rfl
      clear hsm2 hrise hmh hbad2
      repeat' (first | (refine wlS ?_) | (refine wlB ?_) | (refine wlPN ?_) | (refine wlE ?_) | (refine efSvao ?_; intro v oa ho) | ((with_reducible refine sel_call ?_); first | (refine wl_newO rfl rfl rfl rfl rfl (fun w hm => by with_reducible exact RO w (Vw.out w hm) (Mem.hd hm)) ?_; intro x oa hx)) | (refine wl_skip rfl rfl ?_) | ((with_reducible refine wc_seq ?_); intro K hK) | (refine auC ?_) | (refine wc_cond rfl (fun hc => ?_) (fun hc => ?_)) | (refine wc_draw (by kernel_rfl) (by kernel_rfl) (by decide +kernel) ?_; intro w0 hw0 hm0; (try simp only [List.append_eq, List.cons_append, List.nil_append])) | (refine auP ?_) | ((refine auR ?_); clear hK K) | (refine auR ?_) | ((with_reducible refine hK _ _ ?_); clear hK K) | fail)
      obtain ⟨g2, T, ob2, hbg2, rfl, hT, hTm, hTn, hKp2, hab2⟩ := hx
      obtain ⟨b2, rfl⟩ : ∃ b2, b2 = x := ⟨x, rfl⟩
      have habs : T.m.map absK = S.m.map absK := by rw [hab2, hah]
      have hTl : T.m.length = S.m.length := by have := congrArg List.length habs; rwa [List.length_map, List.length_map] at this
      have hfind : findK T.m ask = findK S.m ask := by rw [findK_abs, findK_abs, habs]
      have NT := fun w' (h1 : Hd (stoB b2 g2 T) w') => next_s w' h1
      have LT := fun w' (h1 : Hd (stoB b2 g2 T) w') (h2 : Hd ob2 w') => list_s w' h1 h2 hT hKp2
      have FS := fun w' (h1 : Hd (stoB b g S) w') (h2 : Hd ob w') (h3 : Ats w' (.slice pa ask.length ca) ask) => find_s w' h1 h2 hS hKp h3 hsA
      have FT := fun w' (h1 : Hd (stoB b2 g2 T) w') (h2 : Hd ob2 w') (h3 : Ats w' (.slice pa ask.length ca) ask) => find_s w' h1 h2 hT hKp2 h3 hsA
      rw [hfind] at FT
      rw [hTn] at NT
      have EQI := fun w' {v u : Value} (h1 : Cs w' v (findK S.m ask).length (ints (findK S.m ask))) (h2 : Cs w' u (findK S.m ask).length (ints (findK S.m ask))) => eqI_c w' h1 h2 rfl (Nat.le_trans (findK_len _ _) (by omega))
      have w1 : (S.next != S.next) = false := by simp
      have w2 : ((S.m.length : Int) != (S.m.length : Int)) = false := by simp
      have w4 : (!true) = false := rfl
      clear RO hah hab2 hfind
      repeat' (first | (refine wlS ?_) | (refine wlB ?_) | ((with_reducible refine sel_call ?_); refine wl_rd rfl rfl (rd_call rfl rfl rfl (fun w hm => by with_reducible first | exact NT w (Mem.hd hm) | exact NS w (Mem.hd hm))) ?_) | (refine wlPN ?_) | (refine wlE ?_) | (refine efSvao ?_; intro v oa ho) | ((with_reducible refine sel_call ?_); first | (refine wl_newO rfl rfl rfl rfl rfl (fun w hm => by with_reducible exact LT w (Mem.hd hm) (Mem.hd hm)) ?_; intro x oa hx)) | (refine wl_skip rfl rfl ?_) | ((with_reducible refine wc_seq ?_); intro K hK) | (refine auC ?_) | (refine wc_cond rfl (fun hc => ?_) (fun hc => ?_)) | (refine wc_draw (by kernel_rfl) (by kernel_rfl) (by decide +kernel) ?_; intro w0 hw0 hm0; (try simp only [List.append_eq, List.cons_append, List.nil_append])) | (refine auP ?_) | ((refine auR ?_); clear hK K) | (refine auR ?_) | ((with_reducible refine hK _ _ ?_); clear hK K) | fail)
      obtain ⟨hs2, hOH2, hah2⟩ := hx
      have hhl2 : hs2.length = S.m.length := by have := congrArg List.length hah2; rw [List.length_map, List.length_map] at this; omega
      haveI hcs2 := hOH2.cs
      rw [hhl2] at hcs2
      clear LT NT NS
      repeat' (first | (refine wlS ?_) | (refine wlB ?_) | (refine wlE ?_) | (refine efSvao ?_; intro v oa ho) | ((with_reducible refine sel_call ?_); first | (refine wl_newO rfl rfl rfl rfl rfl (fun w hm => by with_reducible exact LS w (Mem.hd hm) (Mem.hd hm)) ?_; intro x oa hx)) | (refine wl_skip rfl rfl ?_) | ((with_reducible refine wc_seq ?_); intro K hK) | (refine auC ?_) | (refine wc_cond rfl (fun hc => ?_) (fun hc => ?_)) | (refine wc_draw (by kernel_rfl) (by kernel_rfl) (by decide +kernel) ?_; intro w0 hw0 hm0; (try simp only [List.append_eq, List.cons_append, List.nil_append])) | (refine auP ?_) | ((refine auR ?_); clear hK K) | (refine auR ?_) | ((with_reducible refine hK _ _ ?_); clear hK K) | fail)
      obtain ⟨hs3, hOH3, hah3⟩ := hx
      have hhl3 : hs3.length = S.m.length := by have := congrArg List.length hah3; rw [List.length_map, List.length_map] at this; omega
      haveI hcs3 := hOH3.cs
      rw [hhl3] at hcs3
      clear LS
      repeat' (first | (refine wlS ?_) | (refine wlB ?_) | (refine wlE ?_) | (refine efSvao ?_; intro v oa ho) | ((with_reducible refine sel_call ?_); first | (refine wl_newO rfl rfl rfl rfl rfl (fun w hm => by with_reducible exact FS w (Mem.hd hm) (Mem.hd hm) (VwT.out w hm)) ?_; intro x oa hx)) | (refine wl_skip rfl rfl ?_) | ((with_reducible refine wc_seq ?_); intro K hK) | (refine auC ?_) | (refine wc_cond rfl (fun hc => ?_) (fun hc => ?_)) | (refine wc_draw (by kernel_rfl) (by kernel_rfl) (by decide +kernel) ?_; intro w0 hw0 hm0; (try simp only [List.append_eq, List.cons_append, List.nil_append])) | (refine auP ?_) | ((refine auR ?_); clear hK K) | (refine auR ?_) | ((with_reducible refine hK _ _ ?_); clear hK K) | fail)
      haveI hF1 := hx
      clear FS
      repeat' (first | (refine wlS ?_) | (refine wlB ?_) | (refine wlE ?_) | (refine efSvao ?_; intro v oa ho) | ((with_reducible refine sel_call ?_); first | (refine wl_newO rfl rfl rfl rfl rfl (fun w hm => by with_reducible exact FT w (Mem.hd hm) (Mem.hd hm) (VwT.out w hm)) ?_; intro x oa hx)) | (refine wl_skip rfl rfl ?_) | ((with_reducible refine wc_seq ?_); intro K hK) | (refine auC ?_) | (refine wc_cond rfl (fun hc => ?_) (fun hc => ?_)) | (refine wc_draw (by kernel_rfl) (by kernel_rfl) (by decide +kernel) ?_; intro w0 hw0 hm0; (try simp only [List.append_eq, List.cons_append, List.nil_append])) | (refine auP ?_) | ((refine auR ?_); clear hK K) | (refine auR ?_) | ((with_reducible refine hK _ _ ?_); clear hK K) | fail)
      haveI hF2 := hx
      clear FT
      by_cases hful : (S.m.length : Int) < S.most
      · have PS := fun w' (h1 : Hd (stoB b g S) w') (h2 : Below w.heap.size w w') (h3 : ∀ k ∈ keys (stoB b g S), w.heap.size ≤ k) => put_ok w' hbg h1 hS h2 h3 ha hsA (o := 1) hful (by omega)
        have PT := fun w' (h1 : Hd (stoB b2 g2 T) w') (h2 : Below w.heap.size w w') (h3 : ∀ k ∈ keys (stoB b2 g2 T), w.heap.size ≤ k) => put_ok w' hbg2 h1 hT h2 h3 ha hsA (o := 1) (by omega) (by omega)
        rw [hTn] at PT
        have w5 : (S.next == S.next) = true := by simp
        repeat' (first | (refine wlS ?_) | (refine wlB ?_) | ((with_reducible refine sel_call ?_); refine wl_rd rfl rfl (rd_call rfl rfl rfl (fun w hm => by with_reducible exact EQI w (Vw.out w hm) (Vw.out w hm))) ?_) | (refine wlE ?_) | (refine efSvao ?_; intro v oa ho) | (refine wl_skip rfl rfl ?_) | ((with_reducible refine wc_seq ?_); intro K hK) | (refine auC ?_) | (refine wc_cond rfl (fun hc => ?_) (fun hc => ?_)) | (refine wc_draw (by kernel_rfl) (by kernel_rfl) (by decide +kernel) ?_; intro w0 hw0 hm0; (try simp only [List.append_eq, List.cons_append, List.nil_append])) | (refine auP ?_) | ((refine auR ?_); clear hK K) | (refine auR ?_) | ((with_reducible refine hK _ _ ?_); clear hK K) | fail)
        repeat' (first | (refine wlS ?_) | (refine wlB ?_) | (refine wlE ?_) | (refine efSvao ?_; intro v oa ho) | ((with_reducible refine sel_call ?_); first | (refine wl_updO rfl rfl rfl rfl rfl (fun w hm hw => by with_reducible exact PS w hw (hm.below rfl) (Mem.freshS hm)) ?_; intro x oa hx)) | (refine wl_skip rfl rfl ?_) | ((with_reducible refine wc_seq ?_); intro K hK) | (refine auC ?_) | (refine wc_cond rfl (fun hc => ?_) (fun hc => ?_)) | (refine wc_draw (by kernel_rfl) (by kernel_rfl) (by decide +kernel) ?_; intro w0 hw0 hm0; (try simp only [List.append_eq, List.cons_append, List.nil_append])) | (refine auP ?_) | ((refine auR ?_); clear hK K) | (refine auR ?_) | ((with_reducible refine hK _ _ ?_); clear hK K) | fail)
        obtain ⟨vv, it2, oc, rfl, hT1, hab1⟩ := hx
        clear PS
        simp only [List.append_assoc]
        repeat' (first | (refine wlS ?_) | (refine wlB ?_) | (refine wlE ?_) | (refine efSvao ?_; intro v oa ho) | ((with_reducible refine sel_call ?_); first | (refine wl_updO rfl rfl rfl rfl rfl (fun w hm hw => by with_reducible exact PT w hw (hm.below rfl) (Mem.freshS hm)) ?_; intro x oa hx)) | (refine wl_skip rfl rfl ?_) | ((with_reducible refine wc_seq ?_); intro K hK) | (refine auC ?_) | (refine wc_cond rfl (fun hc => ?_) (fun hc => ?_)) | (refine wc_draw (by kernel_rfl) (by kernel_rfl) (by decide +kernel) ?_; intro w0 hw0 hm0; (try simp only [List.append_eq, List.cons_append, List.nil_append])) | (refine auP ?_) | ((refine auR ?_); clear hK K) | (refine auR ?_) | ((with_reducible refine hK _ _ ?_); clear hK K) | fail)
        repeat' (first | (refine wlS ?_) | (refine wlB ?_) | (refine wlE ?_) | (refine efSvao ?_; intro v oa ho) | (refine wl_skip rfl rfl ?_) | ((with_reducible refine wc_seq ?_); intro K hK) | (refine auC ?_) | (refine wc_cond rfl (fun hc => ?_) (fun hc => ?_)) | (refine wc_draw (by kernel_rfl) (by kernel_rfl) (by decide +kernel) ?_; intro w0 hw0 hm0; (try simp only [List.append_eq, List.cons_append, List.nil_append])) | (refine auP ?_) | ((refine auR ?_); clear hK K) | (refine auR ?_) | ((with_reducible refine hK _ _ ?_); clear hK K) | fail)
        first | refine end_ret (ResP.tmp rfl ResP.nil) ?_ | refine end_normal (ResP.tmp rfl ResP.nil) ?_
        first | rfl | (show _ = _; rfl) | (simp only [tupV, *]; done)
      · have PS := fun w' (h1 : Hd (stoB b g S) w') => put_full w' hbg h1 (v := .slice pa ask.length ca) (o := 1) (.inl (by omega))
        have PT := fun w' (h1 : Hd (stoB b2 g2 T) w') => put_full w' hbg2 h1 (v := .slice pa ask.length ca) (o := 1) (.inl (by omega))
        have w5 : ((0 : Int) == 0) = true := rfl
        have w6 : ((7 : Int) == 7) = true := rfl
        repeat' (first | (refine wlS ?_) | (refine wlB ?_) | ((with_reducible refine sel_call ?_); refine wl_rd rfl rfl (rd_call rfl rfl rfl (fun w hm => by with_reducible exact EQI w (Vw.out w hm) (Vw.out w hm))) ?_) | (refine wlE ?_) | (refine efSvao ?_; intro v oa ho) | (refine wl_skip rfl rfl ?_) | ((with_reducible refine wc_seq ?_); intro K hK) | (refine auC ?_) | (refine wc_cond rfl (fun hc => ?_) (fun hc => ?_)) | (refine wc_draw (by kernel_rfl) (by kernel_rfl) (by decide +kernel) ?_; intro w0 hw0 hm0; (try simp only [List.append_eq, List.cons_append, List.nil_append])) | (refine auP ?_) | ((refine auR ?_); clear hK K) | (refine auR ?_) | ((with_reducible refine hK _ _ ?_); clear hK K) | fail)
        repeat' (first | (refine wlS ?_) | (refine wlB ?_) | (refine wlE ?_) | (refine efSvao ?_; intro v oa ho) | ((with_reducible refine sel_call ?_); first | (refine wl_updO rfl rfl rfl rfl rfl (fun w hm hw => by with_reducible exact PS w hw) ?_; intro x oa hx)) | (refine wl_skip rfl rfl ?_) | ((with_reducible refine wc_seq ?_); intro K hK) | (refine auC ?_) | (refine wc_cond rfl (fun hc => ?_) (fun hc => ?_)) | (refine wc_draw (by kernel_rfl) (by kernel_rfl) (by decide +kernel) ?_; intro w0 hw0 hm0; (try simp only [List.append_eq, List.cons_append, List.nil_append])) | (refine auP ?_) | ((refine auR ?_); clear hK K) | (refine auR ?_) | ((with_reducible refine hK _ _ ?_); clear hK K) | fail)
        subst hx
        repeat' (first | (refine wlS ?_) | (refine wlB ?_) | (refine wlE ?_) | (refine efSvao ?_; intro v oa ho) | ((with_reducible refine sel_call ?_); first | (refine wl_updO rfl rfl rfl rfl rfl (fun w hm hw => by with_reducible exact PT w hw) ?_; intro x oa hx)) | (refine wl_skip rfl rfl ?_) | ((with_reducible refine wc_seq ?_); intro K hK) | (refine auC ?_) | (refine wc_cond rfl (fun hc => ?_) (fun hc => ?_)) | (refine wc_draw (by kernel_rfl) (by kernel_rfl) (by decide +kernel) ?_; intro w0 hw0 hm0; (try simp only [List.append_eq, List.cons_append, List.nil_append])) | (refine auP ?_) | ((refine auR ?_); clear hK K) | (refine auR ?_) | ((with_reducible refine hK _ _ ?_); clear hK K) | fail)
        subst hx
        repeat' (first | (refine wlS ?_) | (refine wlB ?_) | (refine wlE ?_) | (refine efSvao ?_; intro v oa ho) | (refine wl_skip rfl rfl ?_) | ((with_reducible refine wc_seq ?_); intro K hK) | (refine auC ?_) | (refine wc_cond rfl (fun hc => ?_) (fun hc => ?_)) | (refine wc_draw (by kernel_rfl) (by kernel_rfl) (by decide +kernel) ?_; intro w0 hw0 hm0; (try simp only [List.append_eq, List.cons_append, List.nil_append])) | (refine auP ?_) | ((refine auR ?_); clear hK K) | (refine auR ?_) | ((with_reducible refine hK _ _ ?_); clear hK K) | fail)
        first | refine end_ret (ResP.tmp rfl ResP.nil) ?_ | refine end_normal (ResP.tmp rfl ResP.nil) ?_
        first | rfl | (show _ = _; rfl) | (simp only [tupV, *]; done)
end Go.Proofs.Ytjianfhodjapgaa.StoreBackWalk
