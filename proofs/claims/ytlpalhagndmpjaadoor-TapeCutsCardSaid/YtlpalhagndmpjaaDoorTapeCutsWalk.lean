/- TapeCuts: the walk. -/
import Derived.Test.YtlpalhagndmpjaaDoorJnAD
namespace Go.Proofs.YtlpalhagndmpjaaDoor.TapeCutsWalk
open Go.RowKit
attribute [local irreducible] rwA bys iw
set_option linter.unusedVariables false
set_option linter.unusedSimpArgs false
theorem Cll.take {w : World} {v : Value} {xs : List Value} {qs : List (List Nat)} (h : Cll w v qs.length xs qs) {v' : Value} {k : Nat} (hk : k ≤ qs.length) (hv : Cs w v' k (xs.take k)) : ∃ ys, Cll w v' (qs.take k).length ys (qs.take k) := by
  have : (qs.take k).length = k := by rw [List.length_take]; omega
  rw [this]
  exact ⟨xs.take k, hv, by rw [List.length_take, h.len]; omega, h.el.take k⟩
set_option maxRecDepth 100000 in
set_option maxHeartbeats 8000000 in
theorem walk (w : World) (hT : Tab w) {kv rv : Value} {nk rl : Nat} {key : List Nat} {xs : List Value} {qs : List (List Nat)} (hk : Cb w kv nk key) (hr : Cll w rv rl xs qs) (z : Int) (hz : (Lit.int .i64 z).wf = true) :
    Calls Tryd.prog 4 [kv, rv, .int .i64 z].toArray w (Ret (.bool true) w) := by
  obtain rfl : rl = qs.length := by rw [hr.el.len, hr.len]
  have i1 := hk.old
  haveI i2 := hr.cs.old
  haveI i3 := hr.old
  have hxl := hr.len
  have TP := fun w'' (h0 : Below w.heap.size w w'') => tapes_t w hT w'' h0
  by_cases hbig : qs.length > 20
  · have t1 : decide ((qs.length : Int) > 20) = true := decide_eq_true (by omega)
    clear hT hk hr
    refine fn_ret (N := _) Tryd.func4 rfl Tryd.ntmps4 Tryd.results4 (by simp) ?_
    simp only [initS, Nat.reduceAdd, Nat.zero_add]
    repeat' (first | (refine wlS ?_) | (refine wlB ?_) | ((with_reducible refine sel_call ?_); refine wl_rd rfl rfl (rd_call rfl rfl rfl (fun w hm => by with_reducible exact TP w (hm.below rfl))) ?_) | (refine wlE ?_) | (refine efSvvp ?_; intro v hv hp) | (refine efSvao ?_; intro v oa ho) | (refine wl_skip rfl rfl ?_) | ((with_reducible refine wc_seq ?_); intro K hK) | (refine auC ?_) | (refine wc_cond rfl (fun hc => ?_) (fun hc => ?_)) | (refine wc_draw (by kernel_rfl) (by kernel_rfl) (by decide +kernel) ?_; intro w0 hw0 hm0; (try simp only [List.append_eq, List.cons_append, List.nil_append])) | (refine auP ?_) | ((refine auR ?_); clear hK K) | (refine auR ?_) | ((with_reducible refine hK _ _ ?_); clear hK K) | fail)
    first | refine end_ret (ResP.tmp rfl ResP.nil) ?_ | refine end_normal (ResP.tmp rfl ResP.nil) ?_
    first | rfl | (show _ = _; rfl) | (simp only [tupV, *]; done)
  have t1 : decide ((qs.length : Int) > 20) = false := decide_eq_false (by omega)
  by_cases hfit : fitsT key qs
  · have hsm := hfit.2
    have WR1 := fun w'' (h0 : Below w.heap.size w w'') (h1 : Cb w'' kv nk key) (h2 : ∃ xs, Cll w'' rv qs.length xs qs) => written_yes w hT w'' h0 h1 h2 (by omega) hfit
    have t2 : ((qs.length : Int) != (qs.length : Int)) = false := by simp
    have hends := fun {i : Nat} (h : i < qs.length) => endsC_get key qs h
    have heL : (endsC key qs qs.length).length = qs.length := by simp [endsC]
    generalize hEN : endsC key qs qs.length = EN at *
    by_cases hz0 : z < 0
    · have t3 : decide (z < 0) = true := decide_eq_true hz0
      clear hT hk hr hends
      generalize encT key z32L qs = E at *
      refine fn_ret (N := _) Tryd.func4 rfl Tryd.ntmps4 Tryd.results4 (by simp) ?_
      simp only [initS, Nat.reduceAdd, Nat.zero_add]
      repeat' (first | (refine wlS ?_) | (refine wlB ?_) | ((with_reducible refine sel_call ?_); refine wl_rd rfl rfl (rd_call rfl rfl rfl (fun w hm => by with_reducible exact TP w (hm.below rfl))) ?_) | (refine wlE ?_) | (refine efSvvp ?_; intro v hv hp) | (refine efSvao ?_; intro v oa ho) | ((with_reducible refine sel_call ?_); first | (refine wl_newO rfl rfl rfl rfl rfl (fun w hm => by with_reducible exact WR1 w (hm.below rfl) (VwB.out w hm) (VwL.out w hm)) ?_; intro x oa hx)) | (refine wl_skip rfl rfl ?_) | ((with_reducible refine wc_seq ?_); intro K hK) | (refine auC ?_) | (refine wc_cond rfl (fun hc => ?_) (fun hc => ?_)) | (refine wc_draw (by kernel_rfl) (by kernel_rfl) (by decide +kernel) ?_; intro w0 hw0 hm0; (try simp only [List.append_eq, List.cons_append, List.nil_append])) | (refine auP ?_) | ((refine auR ?_); clear hK K) | (refine auR ?_) | ((with_reducible refine hK _ _ ?_); clear hK K) | fail)
      obtain ⟨xt, xe⟩ := x
      obtain ⟨ot, oe, rfl, ho, hoe⟩ := hx
      dsimp only at *
      repeat' (first | (refine wlS ?_) | (refine wlB ?_) | (refine wlE ?_) | (refine efSvvp ?_; intro v hv hp) | (refine efSvao ?_; intro v oa ho) | (refine wl_skip rfl rfl ?_) | ((with_reducible refine wc_seq ?_); intro K hK) | (refine auC ?_) | (refine wc_cond rfl (fun hc => ?_) (fun hc => ?_)) | (refine wc_draw (by kernel_rfl) (by kernel_rfl) (by decide +kernel) ?_; intro w0 hw0 hm0; (try simp only [List.append_eq, List.cons_append, List.nil_append])) | (refine auP ?_) | ((refine auR ?_); clear hK K) | (refine auR ?_) | ((with_reducible refine hK _ _ ?_); clear hK K) | fail)
      first | refine end_ret (ResP.tmp rfl ResP.nil) ?_ | refine end_normal (ResP.tmp rfl ResP.nil) ?_
      first | rfl | (show _ = _; rfl) | (simp only [tupV, *]; done)
    have t3 : decide (z < 0) = false := decide_eq_false hz0
    by_cases hz1 : z > ((encT key z32L qs).length : Int)
    · have t4 : decide (z > ((encT key z32L qs).length : Int)) = true := decide_eq_true hz1
      clear hT hk hr hends
      generalize encT key z32L qs = E at *
      refine fn_ret (N := _) Tryd.func4 rfl Tryd.ntmps4 Tryd.results4 (by simp) ?_
      simp only [initS, Nat.reduceAdd, Nat.zero_add]
      repeat' (first | (refine wlS ?_) | (refine wlB ?_) | ((with_reducible refine sel_call ?_); refine wl_rd rfl rfl (rd_call rfl rfl rfl (fun w hm => by with_reducible exact TP w (hm.below rfl))) ?_) | (refine wlE ?_) | (refine efSvvp ?_; intro v hv hp) | (refine efSvao ?_; intro v oa ho) | ((with_reducible refine sel_call ?_); first | (refine wl_newO rfl rfl rfl rfl rfl (fun w hm => by with_reducible exact WR1 w (hm.below rfl) (VwB.out w hm) (VwL.out w hm)) ?_; intro x oa hx)) | (refine wl_skip rfl rfl ?_) | ((with_reducible refine wc_seq ?_); intro K hK) | (refine auC ?_) | (refine wc_cond rfl (fun hc => ?_) (fun hc => ?_)) | (refine wc_draw (by kernel_rfl) (by kernel_rfl) (by decide +kernel) ?_; intro w0 hw0 hm0; (try simp only [List.append_eq, List.cons_append, List.nil_append])) | (refine auP ?_) | ((refine auR ?_); clear hK K) | (refine auR ?_) | ((with_reducible refine hK _ _ ?_); clear hK K) | fail)
      obtain ⟨xt, xe⟩ := x
      obtain ⟨ot, oe, rfl, ho, hoe⟩ := hx
      dsimp only at *
      repeat' (first | (refine wlS ?_) | (refine wlB ?_) | (refine wlE ?_) | (refine efSvvp ?_; intro v hv hp) | (refine efSvao ?_; intro v oa ho) | (refine wl_skip rfl rfl ?_) | ((with_reducible refine wc_seq ?_); intro K hK) | (refine auC ?_) | (refine wc_cond rfl (fun hc => ?_) (fun hc => ?_)) | (refine wc_draw (by kernel_rfl) (by kernel_rfl) (by decide +kernel) ?_; intro w0 hw0 hm0; (try simp only [List.append_eq, List.cons_append, List.nil_append])) | (refine auP ?_) | ((refine auR ?_); clear hK K) | (refine auR ?_) | ((with_reducible refine hK _ _ ?_); clear hK K) | fail)
      first | refine end_ret (ResP.tmp rfl ResP.nil) ?_ | refine end_normal (ResP.tmp rfl ResP.nil) ?_
      first | rfl | (show _ = _; rfl) | (simp only [tupV, *]; done)
    have t4 : decide (z > ((encT key z32L qs).length : Int)) = false := decide_eq_false hz1
    obtain ⟨k, rfl⟩ := Int.eq_ofNat_of_zero_le (Int.not_lt.1 hz0)
    have hkl : k ≤ (encT key z32L qs).length := by omega
    have hrd := rd_cut key hfit.1 hkl
    obtain ⟨A, hA⟩ : ∃ A : Nat → Nat, ∀ j, A j = (encT key z32L (qs.take j)).length := ⟨fun j => (encT key z32L (qs.take j)).length, fun _ => rfl⟩
    obtain ⟨B, hB⟩ : ∃ B, B = whole key z32L qs k := ⟨_, rfl⟩
    have hBl : B ≤ qs.length := by rw [hB]; exact whole_le _ _ _ _
    have hBa := fun {j : Nat} (h : j ≤ qs.length) => whole_at key qs z32L k j h
    rw [← hB] at hrd
    simp only [← hA, ← hB] at hrd hBa hends
    have hAk : A B ≤ k := (hBa hBl).2 (Nat.le_refl _)
    obtain ⟨er, her⟩ : ∃ er, er = if A B < k then 3 else 0 := ⟨_, rfl⟩
    rw [← her] at hrd
    have RD : ∀ w'', Below w.heap.size w w'' → ∀ {tv : Value}, Cb w'' tv k ((encT key z32L qs).take k) → Cb w'' kv nk key → Calls Tryd.prog 8 [tv, kv].toArray w'' (RetO (fun v : Value => .tuple #[v, .int .i64 (A B : Int), .int .i64 (er : Int)]) (fun v oa => OwnLL 22 v (qs.take B) oa) w'') := fun w'' h0 _ h1 h2 => by
      have := read_t w hT w'' h0 h1 h2 (by omega)
      rwa [hrd] at this
    have hTl : (qs.take B).length = B := by rw [List.length_take]; omega
    have ST := fun w'' {va vb : Value} (h1 : ∃ xs, Cll w'' va (qs.take B).length xs (qs.take B)) (h0 : Below w.heap.size w w'') (h2 : Cs w'' vb B (xs.take B)) => sameTexts_t w'' h1 (Cll.take (hr.below h0) hBl h2) (r := true) (by simp) (by omega)
    have hA0 : A 0 = 0 := by rw [hA]; rfl
    have d1 : ((encT key z32L qs).drop 0).take (k - 0) = (encT key z32L qs).take k := rfl
    have d2 : ((xs.drop (0 * 1)).take ((B - 0) * 1)) = xs.take B := by rw [Nat.zero_mul, List.drop_zero, Nat.sub_zero, Nat.mul_one]
    clear hT hk hr hrd hB hEN
    generalize encT key z32L qs = E at *
    refine fn_ret (N := _) Tryd.func4 rfl Tryd.ntmps4 Tryd.results4 (by simp) ?_
    simp only [initS, Nat.reduceAdd, Nat.zero_add]
    repeat' (first | (refine wlS ?_) | (refine wlB ?_) | ((with_reducible refine sel_call ?_); refine wl_rd rfl rfl (rd_call rfl rfl rfl (fun w hm => by with_reducible exact TP w (hm.below rfl))) ?_) | (refine wlE ?_) | (refine efSvvp ?_; intro v hv hp) | (refine efSvao ?_; intro v oa ho) | ((with_reducible refine sel_call ?_); first | (refine wl_newO rfl rfl rfl rfl rfl (fun w hm => by with_reducible exact WR1 w (hm.below rfl) (VwB.out w hm) (VwL.out w hm)) ?_; intro x oa hx)) | (refine wl_skip rfl rfl ?_) | ((with_reducible refine wc_seq ?_); intro K hK) | (refine auC ?_) | (refine wc_cond rfl (fun hc => ?_) (fun hc => ?_)) | (refine wc_draw (by kernel_rfl) (by kernel_rfl) (by decide +kernel) ?_; intro w0 hw0 hm0; (try simp only [List.append_eq, List.cons_append, List.nil_append])) | (refine auP ?_) | ((refine auR ?_); clear hK K) | (refine auR ?_) | ((with_reducible refine hK _ _ ?_); clear hK K) | fail)
    obtain ⟨xt, xe⟩ := x
    obtain ⟨ot, oe, rfl, ho, hoe⟩ := hx
    dsimp only at *
    repeat' (first | (refine wlS ?_) | (refine wlB ?_) | (refine wlE ?_) | (refine efSvvp ?_; intro v hv hp) | (refine efSvao ?_; intro v oa ho) | (refine wl_skip rfl rfl ?_) | ((with_reducible refine wc_seq ?_); intro K hK) | (refine auC ?_) | (refine wc_cond rfl (fun hc => ?_) (fun hc => ?_)) | (refine wc_draw (by kernel_rfl) (by kernel_rfl) (by decide +kernel) ?_; intro w0 hw0 hm0; (try simp only [List.append_eq, List.cons_append, List.nil_append])) | (refine auP ?_) | ((refine auR ?_); clear hK K) | (refine auR ?_) | ((with_reducible refine hK _ _ ?_); clear hK K) | fail)
    refine wc_loop (σ := Nat) (fun i => [(0, kv), (1, rv), (2, .int .i64 (k : Int)), (7, xt), (8, xe), (9, .int .i64 (i : Int)), (10, .int .i64 (A i : Int))]) (fun _ => oe ++ ot) (fun i => i ≤ B) (fun i => B - i) 0 (Nat.zero_le _) (Fits.of ⟨rfl, rfl, rfl, rfl, rfl, rfl, by rw [hA0]; rfl, trivial⟩ (SubL.refl _) rfl) ?_
    intro i hi
    by_cases hlt : i < B
    · have t5 : decide ((i : Int) < (qs.length : Int)) = true := decide_eq_true (by omega)
      have g1 := hends (i := i) (by omega)
      have j1 : (i : Int) < (qs.length : Int) := by omega
      have t6 : decide ((A (i + 1) : Int) ≤ (k : Int)) = true := decide_eq_true (by have := (hBa (j := i + 1) (by omega)).2 (by omega); omega)
      have k1 : IntKind.i64.wrap ((i : Int) + 1) = ((i + 1 : Nat) : Int) := by rw [wrap_i64 _ (by omega) (by omega)]; omega
      clear WR1 TP RD ST hends
      repeat' (first | (refine wlS ?_) | (refine wlB ?_) | (refine wlE ?_) | (refine efSvvp ?_; intro v hv hp) | (refine efSvao ?_; intro v oa ho) | (refine wl_skip rfl rfl ?_) | ((with_reducible refine wc_seq ?_); intro K hK) | (refine auC ?_) | (refine wc_cond rfl (fun hc => ?_) (fun hc => ?_)) | (refine wc_draw (by kernel_rfl) (by kernel_rfl) (by decide +kernel) ?_; intro w0 hw0 hm0; (try simp only [List.append_eq, List.cons_append, List.nil_append])) | (refine auP ?_) | ((refine auR ?_); clear hK K) | (refine auR ?_) | ((with_reducible refine hK _ _ ?_); clear hK K) | fail)
      exact ⟨i + 1, hlt, by omega, Fits.of ⟨rfl, rfl, rfl, rfl, rfl, rfl, rfl, trivial⟩ (SubL.refl _) rfl⟩
    · obtain rfl : i = B := by omega
      have hcont : ∀ {Q : Post} {s : Slots} {l : Blks}, True := trivial
      have hend : (decide ((i : Int) < (qs.length : Int)) = false) ∨ (decide ((i : Int) < (qs.length : Int)) = true ∧ EN[i]? = some (.int .i64 (A (i + 1) : Int)) ∧ (i : Int) < (qs.length : Int) ∧ decide ((A (i + 1) : Int) ≤ (k : Int)) = false) := by
        by_cases h : i < qs.length
        · refine .inr ⟨decide_eq_true (by omega), hends h, by omega, decide_eq_false fun h' => ?_⟩
          have := (hBa (j := i + 1) h).1 (by omega)
          omega
        · exact .inl (decide_eq_false (by omega))
      have hk3 : (decide ((A i : Int) < (k : Int)) = true ∧ er = 3) ∨ (decide ((A i : Int) < (k : Int)) = false ∧ er = 0) := by
        by_cases h : A i < k
        · exact .inl ⟨decide_eq_true (by omega), by rw [her, if_pos h]⟩
        · exact .inr ⟨decide_eq_false (by omega), by rw [her, if_neg h]⟩
      have t7 : ((er : Int) == (er : Int)) = true := by simp
      have t8 : ((A i : Int) == (A i : Int)) = true := by simp
      have j3 : (3 : Int) = ((3 : Nat) : Int) := rfl
      clear WR1 TP hends hBa
      have d3 : i - 0 = i := rfl
      have d4 : k - 0 = k := rfl
      rcases hend with t5 | ⟨t5, g1, j1, t6⟩
      all_goals rcases hk3 with ⟨t9, h9⟩ | ⟨t9, h9⟩
      all_goals subst h9
      all_goals clear her
      all_goals (
        repeat' (first | (refine wlS ?_) | (refine wlB ?_) | (refine wlE ?_) | (refine efSvvp ?_; intro v hv hp) | (refine efSvao ?_; intro v oa ho) | ((with_reducible refine sel_call ?_); first | (refine wl_newO rfl rfl rfl rfl rfl (fun w hm => by with_reducible exact RD w (hm.below rfl) (VwB.out w hm) (VwB.out w hm)) ?_; intro x oa hx)) | (refine wl_skip rfl rfl ?_) | ((with_reducible refine wc_seq ?_); intro K hK) | (refine auC ?_) | (refine wc_cond rfl (fun hc => ?_) (fun hc => ?_)) | (refine wc_draw (by kernel_rfl) (by kernel_rfl) (by decide +kernel) ?_; intro w0 hw0 hm0; (try simp only [List.append_eq, List.cons_append, List.nil_append])) | (refine auP ?_) | ((refine auR ?_); clear hK K) | (refine auR ?_) | ((with_reducible refine hK _ _ ?_); clear hK K) | fail))
      all_goals haveI := hx.is
      all_goals (
        repeat' (first | (refine wlS ?_) | (refine wlB ?_) | ((with_reducible refine sel_call ?_); refine wl_rd rfl rfl (rd_call rfl rfl rfl (fun w hm => by with_reducible exact ST w (VwL.out w hm) (hm.below rfl) (Vw.out w hm))) ?_) | (refine wlE ?_) | (refine efSvvp ?_; intro v hv hp) | (refine efSvao ?_; intro v oa ho) | (refine wl_skip rfl rfl ?_) | ((with_reducible refine wc_seq ?_); intro K hK) | (refine auC ?_) | (refine wc_cond rfl (fun hc => ?_) (fun hc => ?_)) | (refine wc_draw (by kernel_rfl) (by kernel_rfl) (by decide +kernel) ?_; intro w0 hw0 hm0; (try simp only [List.append_eq, List.cons_append, List.nil_append])) | (refine auP ?_) | ((refine auR ?_); clear hK K) | (refine auR ?_) | ((with_reducible refine hK _ _ ?_); clear hK K) | fail))
      all_goals (
        first | refine end_ret (ResP.tmp rfl ResP.nil) ?_ | refine end_normal (ResP.tmp rfl ResP.nil) ?_
        first | rfl | (show _ = _; rfl) | (simp only [tupV, *]; done))
  · have t2 : (((0 : Nat) : Int) != (qs.length : Int)) = true := by
      simp only [bne_iff_ne, ne_eq]
      intro h
      exact hfit (fitsT_small (by omega) fun r hr => by
        have : qs = [] := List.eq_nil_of_length_eq_zero (by omega)
        rw [this] at hr; cases hr)
    have WR1 := fun w'' (h0 : Below w.heap.size w w'') (h1 : Cb w'' kv nk key) (h2 : ∃ xs, Cll w'' rv qs.length xs qs) => written_no w hT w'' h0 h1 h2 (by omega) hfit
    clear hT hk hr
    refine fn_ret (N := _) Tryd.func4 rfl Tryd.ntmps4 Tryd.results4 (by simp) ?_
    simp only [initS, Nat.reduceAdd, Nat.zero_add]
    repeat' (first | (refine wlS ?_) | (refine wlB ?_) | ((with_reducible refine sel_call ?_); refine wl_rd rfl rfl (rd_call rfl rfl rfl (fun w hm => by with_reducible exact TP w (hm.below rfl))) ?_) | (refine wlE ?_) | (refine efSvvp ?_; intro v hv hp) | (refine efSvao ?_; intro v oa ho) | ((with_reducible refine sel_call ?_); first | (refine wl_newO rfl rfl rfl rfl rfl (fun w hm => by with_reducible exact WR1 w (hm.below rfl) (VwB.out w hm) (VwL.out w hm)) ?_; intro x oa hx)) | (refine wl_skip rfl rfl ?_) | ((with_reducible refine wc_seq ?_); intro K hK) | (refine auC ?_) | (refine wc_cond rfl (fun hc => ?_) (fun hc => ?_)) | (refine wc_draw (by kernel_rfl) (by kernel_rfl) (by decide +kernel) ?_; intro w0 hw0 hm0; (try simp only [List.append_eq, List.cons_append, List.nil_append])) | (refine auP ?_) | ((refine auR ?_); clear hK K) | (refine auR ?_) | ((with_reducible refine hK _ _ ?_); clear hK K) | fail)
    subst hx
    repeat' (first | (refine wlS ?_) | (refine wlB ?_) | (refine wlE ?_) | (refine efSvvp ?_; intro v hv hp) | (refine efSvao ?_; intro v oa ho) | (refine wl_skip rfl rfl ?_) | ((with_reducible refine wc_seq ?_); intro K hK) | (refine auC ?_) | (refine wc_cond rfl (fun hc => ?_) (fun hc => ?_)) | (refine wc_draw (by kernel_rfl) (by kernel_rfl) (by decide +kernel) ?_; intro w0 hw0 hm0; (try simp only [List.append_eq, List.cons_append, List.nil_append])) | (refine auP ?_) | ((refine auR ?_); clear hK K) | (refine auR ?_) | ((with_reducible refine hK _ _ ?_); clear hK K) | fail)
    first | refine end_ret (ResP.tmp rfl ResP.nil) ?_ | refine end_normal (ResP.tmp rfl ResP.nil) ?_
    first | rfl | (show _ = _; rfl) | (simp only [tupV, *]; done)
end Go.Proofs.YtlpalhagndmpjaaDoor.TapeCutsWalk
