/- ShareAny: the walk. -/
import Derived.Test.YtkbgkobbadjpnaaDoorJnAG
namespace Go.Proofs.YtkbgkobbadjpnaaDoor.ShareAnyWalk
open Go.RowKit
set_option linter.unusedVariables false
set_option linter.unusedSimpArgs false
set_option maxRecDepth 100000
/-- What is chosen of a polynomial's shares, as many as it has numbers, is it. -/
theorem any_law {cs : List Nat} {n : Nat} (hn : n ≤ 20) {c : List (Int × Nat)} (hnd : c.Nodup) (hsub : ∀ q ∈ c, q ∈ polyS cs n) (hlen : cs.length ≤ c.length) (h0 : 0 < cs.length) (h20 : c.length ≤ 20) :
    ∃ c' : List (Nat × Nat), c = liI c' ∧ (∀ q ∈ c', q.1 < 256 ∧ q.2 < T256) ∧ (∀ x, shAt c' x = evS cs x) ∧ ∀ x : Nat, x < 256 → shErr (liI c') (x : Int) = 0 := by
  have hp : ∀ q ∈ polyS cs n, ∃ j, j < n ∧ q = (((j + 1 : Nat) : Int), evS cs (j + 1)) := fun q hq => by
    obtain ⟨j, hj, rfl⟩ := List.mem_map.1 hq
    exact ⟨j, List.mem_range.1 hj, rfl⟩
  have hev : ∀ x, evS cs x < SLn := fun x => by
    cases cs with
    | nil => exact absurd h0 (by simp)
    | cons a r => exact sadd_L _ _
  have hg : ShG c := by
    refine ⟨fun q hq => ?_, ?_⟩
    · obtain ⟨j, hj, rfl⟩ := hp q (hsub q hq)
      exact ⟨by dsimp only; omega, by dsimp only; omega, hev _⟩
    · rw [List.nodup_iff_pairwise_ne] at hnd ⊢
      refine List.Pairwise.map _ (R := fun a b => a ≠ b ∧ a ∈ polyS cs n ∧ b ∈ polyS cs n) (fun a b hab e => ?_) (hnd.imp_of_mem fun ha hb hne => ⟨hne, hsub _ ha, hsub _ hb⟩)
      obtain ⟨hne, ha, hb⟩ := hab
      obtain ⟨i, _, rfl⟩ := hp a ha
      obtain ⟨j, _, rfl⟩ := hp b hb
      dsimp only at e
      obtain rfl : i = j := by omega
      exact hne rfl
  obtain ⟨c', rfl, h6, h7⟩ := hg.nat
  refine ⟨c', rfl, fun q hq => ⟨(h7 q hq).2.1, Nat.lt_trans (h7 q hq).2.2 SL_T⟩, fun x => shAt_poly h6 (fun q hq => ?_) (by rwa [liI_len] at hlen) x, fun x hx => ?_⟩
  · obtain ⟨j, _, he⟩ := hp ((q.1 : Int), q.2) (hsub _ (List.mem_map.2 ⟨q, hq, rfl⟩))
    have e1 : (q.1 : Int) = ((j + 1 : Nat) : Int) := congrArg Prod.fst he
    have e2 : q.2 = evS cs (j + 1) := congrArg Prod.snd he
    have e3 : q.1 = j + 1 := by omega
    rw [e2, e3]
  · exact shErr_of h20 (by omega) (by omega) (by omega) hg
set_option maxHeartbeats 32000000 in
theorem walk0 (w : World) (hT : Tab w) (a : Nat) (ha : a < T256) (k jn : Int) {v : Value} {m : Nat} {p : List Nat} (h1 : Cb w v m p) {u : Value} {zs : List Int} (hz : Cs w u zs.length (zs.map (Value.int .i64))) :
    Calls Tryd.prog 12 [nu a, .int .i64 k, .int .i64 jn, v, u].toArray w (Ret (.bool true) w) := by
  have i1 := h1.old
  have i2 := hz.old
  have SA : ∀ w'', Below w.heap.size w w'' → Cb w'' v m p → Calls Tryd.prog 27 [nu a, .int .i64 k, .int .i64 jn, v].toArray w'' (RetO (fun x : Value × Int => .tuple #[x.1, .int .i64 x.2]) (SplA a k jn) w'') := fun w'' h h' => split_any w hT w'' h a ha k jn h'
  clear hT h1
  refine fn_ret (N := _) Tryd.func12 rfl Tryd.ntmps12 Tryd.results12 (by simp) ?_
  simp only [initS, Nat.reduceAdd, Nat.zero_add]
  repeat' (first | (refine wlS ?_) | (refine wlB ?_) | (refine wlE ?_) | (refine efSvao ?_; intro v oa ho) | (refine efZCnn ?_; intro n hn) | ((with_reducible refine sel_call ?_); first | (refine wl_newO rfl rfl rfl rfl rfl (fun w hm => by with_reducible exact SA w (hm.below rfl) (VwB.out w hm)) ?_; intro x oa hx)) | (refine efBnn ?_; intro n hn) | (refine efB ?_) | (refine efBS ?_) | (refine wl_skip rfl rfl ?_) | ((with_reducible refine wc_seq ?_); intro K hK) | (refine auC ?_) | (refine wc_cond rfl (fun hc => ?_) (fun hc => ?_)) | (refine wc_draw (by kernel_rfl) (by kernel_rfl) (by decide +kernel) ?_; intro w0 hw0 hm0; (try simp only [List.append_eq, List.cons_append, List.nil_append])) | (refine auP ?_) | ((refine auR ?_); clear hK K) | (refine auR ?_) | ((with_reducible refine hK _ _ ?_); clear hK K) | fail)
  · obtain ⟨v1, e1⟩ := x
    dsimp only at hc ⊢
    rcases hx with ⟨hx1, hx2, rfl⟩ | ⟨hx1, _⟩
    · dsimp only at hx1 hx2 ⊢
      subst hx2
      clear SA hc hx1
      repeat' (first | (refine wlS ?_) | (refine wlB ?_) | (refine wlNB ?_) | (refine wlE ?_) | (refine efSvao ?_; intro v oa ho) | (refine efZCnn ?_; intro n hn) | (refine efBnn ?_; intro n hn) | (refine efB ?_) | (refine efBS ?_) | (refine wl_skip rfl rfl ?_) | ((with_reducible refine wc_seq ?_); intro K hK) | (refine auC ?_) | (refine wc_cond rfl (fun hc => ?_) (fun hc => ?_)) | (refine wc_draw (by kernel_rfl) (by kernel_rfl) (by decide +kernel) ?_; intro w0 hw0 hm0; (try simp only [List.append_eq, List.cons_append, List.nil_append])) | (refine auP ?_) | ((refine auR ?_); clear hK K) | (refine auR ?_) | ((with_reducible refine hK _ _ ?_); clear hK K) | fail)
      first | refine end_ret (ResP.tmp rfl ResP.nil) ?_ | refine end_normal (ResP.tmp rfl ResP.nil) ?_
      first | rfl | (show _ = _; rfl) | (simp only [tupV, *]; done)
    · dsimp only at hx1
      subst hx1
      exact absurd hc (by decide)
  clear SA
  obtain ⟨nA, rfl⟩ : ∃ nA, nA = n := ⟨n, rfl⟩
  obtain ⟨oa1, rfl⟩ : ∃ oa1, oa1 = oa := ⟨oa, rfl⟩
  obtain ⟨v1, e1⟩ := x
  rcases hx with ⟨hx1, hx2, rfl⟩ | ⟨hx1, aL, kk, nn, rfl, rfl, k1, k2, k3, cs, hc1, hc2, ho1⟩
  · dsimp only at hx1 hc
    exact absurd hc (by simpa using hx1)
  clear hc
  dsimp only at hx1 ho1 ⊢
  subst hx1
  haveI := ho1
  have il1 : Ln v1 nn := ho1.ln
  have n0 : ((0 : Int) != 0) = false := rfl
  have hev : ∀ x, evS cs x < SLn := fun x => by
    cases cs with
    | nil => simp at hc1; omega
    | cons a r => exact sadd_L _ _
  have hyP : ∀ q ∈ polyS cs nn, q.2 < T256 := fun q hq => by
    obtain ⟨j, hj, rfl⟩ := List.mem_map.1 hq
    exact Nat.lt_trans (hev _) SL_T
  have CH : ∀ w', Cs w' v1 nn (recs shE (polyS cs nn)) → Cs w' u zs.length (zs.map (Value.int .i64)) → Calls Tryd.prog 36 [v1, u, .int .i64 (kk : Int)].toArray w' (RetO (fun x => x) (fun x oa => ∃ c : List (Int × Nat), OwnL 64 5 x c.length (recs shE c) oa ∧ c.Nodup ∧ (∀ q ∈ c, q ∈ polyS cs nn) ∧ c.length ≤ kk) w') := fun w' h2 h3 =>
    chosen_c w' (by unfold Shs; rw [polyS_len]; exact h2) hyP (by rw [polyS_len]; exact k3) h3 kk (by omega)
  have q1 : ((nn : Int) != (nn : Int)) = false := by simp
  repeat' (first | (refine wlS ?_) | (refine wlB ?_) | (refine wlNB ?_) | (refine wlE ?_) | (refine efSvao ?_; intro v oa ho) | (refine efZCnn ?_; intro n hn) | ((with_reducible refine sel_call ?_); first | (refine wl_newO rfl rfl rfl rfl rfl (fun w hm => by with_reducible exact CH w (Vw.out w hm) (Vw.out w hm)) ?_; intro x oa hx)) | (refine efBnn ?_; intro n hn) | (refine efB ?_) | (refine efBS ?_) | (refine wl_skip rfl rfl ?_) | ((with_reducible refine wc_seq ?_); intro K hK) | (refine auC ?_) | (refine wc_cond rfl (fun hc => ?_) (fun hc => ?_)) | (refine wc_draw (by kernel_rfl) (by kernel_rfl) (by decide +kernel) ?_; intro w0 hw0 hm0; (try simp only [List.append_eq, List.cons_append, List.nil_append])) | (refine auP ?_) | ((refine auR ?_); clear hK K) | (refine auR ?_) | ((with_reducible refine hK _ _ ?_); clear hK K) | fail)
  obtain ⟨c, ho2, hnd, hsub, hck⟩ := hx
  haveI := ho2
  obtain ⟨v2, rfl⟩ : ∃ v2, v2 = x := ⟨x, rfl⟩
  obtain ⟨oa2, rfl⟩ : ∃ oa2, oa2 = oa := ⟨oa, rfl⟩
  have il2 : Ln v2 c.length := ho2.ln
  clear CH i1 i2 hz hyP
  by_cases hl : c.length < kk
  · have t1 : decide ((c.length : Int) < (kk : Int)) = true := decide_eq_true (by omega)
    repeat' (first | (refine wlS ?_) | (refine wlB ?_) | (refine wlNB ?_) | (refine wlE ?_) | (refine efSvao ?_; intro v oa ho) | (refine efZCnn ?_; intro n hn) | (refine efBnn ?_; intro n hn) | (refine efB ?_) | (refine efBS ?_) | (refine wl_skip rfl rfl ?_) | ((with_reducible refine wc_seq ?_); intro K hK) | (refine auC ?_) | (refine wc_cond rfl (fun hc => ?_) (fun hc => ?_)) | (refine wc_draw (by kernel_rfl) (by kernel_rfl) (by decide +kernel) ?_; intro w0 hw0 hm0; (try simp only [List.append_eq, List.cons_append, List.nil_append])) | (refine auP ?_) | ((refine auR ?_); clear hK K) | (refine auR ?_) | ((with_reducible refine hK _ _ ?_); clear hK K) | fail)
    first | refine end_ret (ResP.tmp rfl ResP.nil) ?_ | refine end_normal (ResP.tmp rfl ResP.nil) ?_
    first | rfl | (show _ = _; rfl) | (simp only [tupV, *]; done)
  have t1 : decide ((c.length : Int) < (kk : Int)) = false := decide_eq_false (by omega)
  by_cases h6 : kk > 6
  · have t6 : decide ((kk : Int) > 6) = true := decide_eq_true (by omega)
    repeat' (first | (refine wlS ?_) | (refine wlB ?_) | (refine wlNB ?_) | (refine wlE ?_) | (refine efSvao ?_; intro v oa ho) | (refine efZCnn ?_; intro n hn) | (refine efBnn ?_; intro n hn) | (refine efB ?_) | (refine efBS ?_) | (refine wl_skip rfl rfl ?_) | ((with_reducible refine wc_seq ?_); intro K hK) | (refine auC ?_) | (refine wc_cond rfl (fun hc => ?_) (fun hc => ?_)) | (refine wc_draw (by kernel_rfl) (by kernel_rfl) (by decide +kernel) ?_; intro w0 hw0 hm0; (try simp only [List.append_eq, List.cons_append, List.nil_append])) | (refine auP ?_) | ((refine auR ?_); clear hK K) | (refine auR ?_) | ((with_reducible refine hK _ _ ?_); clear hK K) | fail)
    first | refine end_ret (ResP.tmp rfl ResP.nil) ?_ | refine end_normal (ResP.tmp rfl ResP.nil) ?_
    first | rfl | (show _ = _; rfl) | (simp only [tupV, *]; done)
  have t6 : decide ((kk : Int) > 6) = false := decide_eq_false (by omega)
  obtain ⟨c', rfl, g1, g2, g3⟩ := any_law k3 hnd hsub (by omega) (by omega) (by omega)
  have AT : ∀ x : Nat, x < 256 → ∀ w', Cs w' v2 (liI c').length (recs shE (liI c')) → Calls Tryd.prog 29 [v2, .int .i64 (x : Int)].toArray w' (Ret (.tuple #[nu (evS cs x), .int .i64 0]) w') := fun x hx w' h' => by
    rw [← g2 x]
    exact at_ok w' h' g1 hx (g3 x hx)
  have A0 := AT 0 (by decide)
  have e0 : evS cs 0 = a := by
    cases cs with
    | nil => simp at hc2
    | cons d r => simp at hc2; subst hc2; exact evS_zero aL
  rw [e0] at A0
  have A0' : ∀ w', Cs w' v2 (liI c').length (recs shE (liI c')) → Calls Tryd.prog 29 [v2, .int .i64 0].toArray w' (Ret (.tuple #[nu a, .int .i64 0]) w') := A0
  clear A0 hnd hsub hck g1 g2 g3 e0
  repeat' (first | (refine wlS ?_) | (refine wlB ?_) | (refine wlNB ?_) | (refine wlEQ ?_) | ((with_reducible refine sel_call ?_); refine wl_rd rfl rfl (rd_call rfl rfl rfl (fun w hm => by with_reducible exact A0' w (Vw.out w hm))) ?_) | (refine wlE ?_) | (refine efSvao ?_; intro v oa ho) | (refine efZCnn ?_; intro n hn) | (refine efBnn ?_; intro n hn) | (refine efB ?_) | (refine efBS ?_) | (refine wl_skip rfl rfl ?_) | ((with_reducible refine wc_seq ?_); intro K hK) | (refine auC ?_) | (refine wc_cond rfl (fun hc => ?_) (fun hc => ?_)) | (refine wc_draw (by kernel_rfl) (by kernel_rfl) (by decide +kernel) ?_; intro w0 hw0 hm0; (try simp only [List.append_eq, List.cons_append, List.nil_append])) | (refine auP ?_) | ((refine auR ?_); clear hK K) | (refine auR ?_) | ((with_reducible refine hK _ _ ?_); clear hK K) | fail)
  clear A0' t1 t6 q1
  refine wc_loop (σ := Nat) (fun i => [(11, v1), (13, v2), (61, v1), (62, .int .i64 (nn : Int)), (63, .int .i64 (i : Int))]) (fun _ => oa1 ++ oa2)
    (fun i => i ≤ nn) (fun i => nn - i) 0 (Nat.zero_le _) (Fits.of ⟨rfl, rfl, rfl, rfl, rfl, trivial⟩ ?_ rfl) ?_
  · repeat (first | exact SubL.nil | exact SubL.refl _ | refine SubL.keep ?_ | exact SubL.headA _ _ | refine SubL.keepA ?_ _ | refine SubL.skip ?_ | refine SubL.skipA ?_ _)
  intro i hi
  by_cases hlt : i < nn
  · have w1 : decide ((i : Int) < (nn : Int)) = true := decide_eq_true (by omega)
    have w2 : IntKind.i64.wrap ((i : Int) + 1) = ((i + 1 : Nat) : Int) := by rw [wrap_i64 _ (by omega) (by omega)]; omega
    have j1 : (i : Int) < (nn : Int) := by omega
    have hget : ((recs shE (polyS cs nn)).drop (i * 5)).take 5 = rwL (sgSh ((i + 1 : Nat) : Int) (evS cs (i + 1))) := recs_get shE (polyS_get hlt)
    have hlen := sgSh_len ((i + 1 : Nat) : Int) (evS cs (i + 1))
    have hne' := sgSh_ne ((i + 1 : Nat) : Int) (evS cs (i + 1))
    have A1 := AT (i + 1) (by omega)
    have yT : evS cs (i + 1) < T256 := Nat.lt_trans (hev _) SL_T
    clear AT hev hc1 hc2 k1 k2 k3 aL
    generalize evS cs (i + 1) = Y at *
    generalize recs shE (polyS cs nn) = cx at *
    generalize recs shE (liI c') = cy at *
    repeat' (first | (refine wlS ?_) | (refine wlG ?_) | (refine wlB ?_) | (refine wlNB ?_) | (refine wlEQ ?_) | ((with_reducible refine sel_call ?_); refine wl_rd rfl rfl (rd_call rfl rfl rfl (fun w hm => by with_reducible exact A1 w (Vw.out w hm))) ?_) | (refine wlE ?_) | (refine efSvao ?_; intro v oa ho) | (refine efG ?_) | (refine efGnn ?_; intro n hn) | (refine efZCnn ?_; intro n hn) | (refine efBnn ?_; intro n hn) | (refine efB ?_) | (refine efBS ?_) | (refine wl_skip rfl rfl ?_) | ((with_reducible refine wc_seq ?_); intro K hK) | (refine auC ?_) | (refine wc_cond rfl (fun hc => ?_) (fun hc => ?_)) | (refine wc_draw (by kernel_rfl) (by kernel_rfl) (by decide +kernel) ?_; intro w0 hw0 hm0; (try simp only [List.append_eq, List.cons_append, List.nil_append])) | (refine auP ?_) | ((refine auR ?_); clear hK K) | (refine auR ?_) | ((with_reducible refine hK _ _ ?_); clear hK K) | fail)
    exact ⟨i + 1, hlt, by omega, Fits.of ⟨rfl, rfl, rfl, rfl, rfl, trivial⟩ (by repeat (first | exact SubL.nil | exact SubL.refl _ | refine SubL.skip ?_)) rfl⟩
  · obtain rfl : i = nn := by omega
    have w1 : decide ((i : Int) < (i : Int)) = false := decide_eq_false (by omega)
    clear AT hev hc1 hc2
    repeat' (first | (refine wlS ?_) | (refine wlB ?_) | (refine wlE ?_) | (refine efSvao ?_; intro v oa ho) | (refine efZCnn ?_; intro n hn) | (refine efBnn ?_; intro n hn) | (refine efB ?_) | (refine efBS ?_) | (refine wl_skip rfl rfl ?_) | ((with_reducible refine wc_seq ?_); intro K hK) | (refine auC ?_) | (refine wc_cond rfl (fun hc => ?_) (fun hc => ?_)) | (refine wc_draw (by kernel_rfl) (by kernel_rfl) (by decide +kernel) ?_; intro w0 hw0 hm0; (try simp only [List.append_eq, List.cons_append, List.nil_append])) | (refine auP ?_) | ((refine auR ?_); clear hK K) | (refine auR ?_) | ((with_reducible refine hK _ _ ?_); clear hK K) | fail)
    first | refine end_ret (ResP.tmp rfl ResP.nil) ?_ | refine end_normal (ResP.tmp rfl ResP.nil) ?_
    first | rfl | (show _ = _; rfl) | (simp only [tupV, *]; done)
theorem walk (w : World) (hT : Tab w) (a : Nat) (ha : a < T256) (k : Int) (hk : (Lit.int .i64 k).wf = true) (jn : Int) (hj : (Lit.int .i64 jn).wf = true) {v : Value} {m : Nat} {p : List Nat} (h1 : Cb w v m p) {u : Value} {zs : List Int} (hz : Cs w u zs.length (zs.map (Value.int .i64)) ∧ ∀ z ∈ zs, -9223372036854775808 ≤ z ∧ z < 9223372036854775808) :
    Calls Tryd.prog 12 #[num a, .int .i64 k, .int .i64 jn, v, u] w (Ret (.bool true) w) := by
  rw [nu_num]
  exact walk0 w hT a ha k jn h1 hz.1
end Go.Proofs.YtkbgkobbadjpnaaDoor.ShareAnyWalk
