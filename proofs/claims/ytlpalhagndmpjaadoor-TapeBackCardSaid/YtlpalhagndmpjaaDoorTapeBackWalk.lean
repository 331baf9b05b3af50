/- TapeBack: the walk. -/
import Derived.Test.YtlpalhagndmpjaaDoorJnAD
namespace Go.Proofs.YtlpalhagndmpjaaDoor.TapeBackWalk
open Go.RowKit
attribute [local irreducible] rwA bys iw
set_option linter.unusedVariables false
set_option linter.unusedSimpArgs false
set_option maxRecDepth 100000 in
set_option maxHeartbeats 8000000 in
theorem walk (w : World) (hT : Tab w) {kv rv : Value} {nk rl : Nat} {key : List Nat} {xs : List Value} {qs : List (List Nat)} (hk : Cb w kv nk key) (hr : Cll w rv rl xs qs) :
    Calls Tryd.prog 3 [kv, rv].toArray w (Ret (.bool true) w) := by
  obtain rfl : rl = qs.length := by rw [hr.el.len, hr.len]
  have i1 := hk.old
  haveI i2 := hr.cs.old
  haveI i3 := hr.old
  have hE := hr.el
  have hxl := hr.len
  by_cases hbig : qs.length > 20
  · have t1 : decide ((qs.length : Int) > 20) = true := decide_eq_true (by omega)
    clear hT hk hr hE
    refine fn_ret (N := _) Tryd.func3 rfl Tryd.ntmps3 Tryd.results3 (by simp) ?_
    simp only [initS, Nat.reduceAdd, Nat.zero_add]
    repeat' (first | (refine wlS ?_) | (refine wlB ?_) | (refine wlE ?_) | (refine efSvao ?_; intro v oa ho) | (refine wl_skip rfl rfl ?_) | ((with_reducible refine wc_seq ?_); intro K hK) | (refine auC ?_) | (refine wc_cond rfl (fun hc => ?_) (fun hc => ?_)) | (refine wc_draw (by kernel_rfl) (by kernel_rfl) (by decide +kernel) ?_; intro w0 hw0 hm0; (try simp only [List.append_eq, List.cons_append, List.nil_append])) | (refine auP ?_) | ((refine auR ?_); clear hK K) | (refine auR ?_) | ((with_reducible refine hK _ _ ?_); clear hK K) | fail)
    first | refine end_ret (ResP.tmp rfl ResP.nil) ?_ | refine end_normal (ResP.tmp rfl ResP.nil) ?_
    first | rfl | (show _ = _; rfl) | (simp only [tupV, *]; done)
  have t1 : decide ((qs.length : Int) > 20) = false := decide_eq_false (by omega)
  by_cases hfit : fitsT key qs
  · have hrd := rd_enc key hfit.1
    have hsm := hfit.2
    have RD : ∀ w'', Below w.heap.size w w'' → ∀ {tv : Value}, Cb w'' tv (encT key z32L qs).length (encT key z32L qs) → Cb w'' kv nk key → Calls Tryd.prog 8 [tv, kv].toArray w'' (RetO (fun v : Value => .tuple #[v, .int .i64 ((encT key z32L qs).length : Int), .int .i64 0]) (fun v oa => OwnLL 22 v qs oa) w'') := fun w'' h0 _ h1 h2 => by
      have := read_t w hT w'' h0 h1 h2 (by omega)
      rwa [hrd] at this
    have ST := fun w'' {va : Value} (h1 : ∃ xs, Cll w'' va qs.length xs qs) (h2 : ∃ xs, Cll w'' rv qs.length xs qs) => sameTexts_t w'' h1 h2 (r := true) (by simp) (by omega)
    have WR1 := fun w'' (h0 : Below w.heap.size w w'') (h1 : Cb w'' kv nk key) (h2 : ∃ xs, Cll w'' rv qs.length xs qs) => written_yes w hT w'' h0 h1 h2 (by omega) hfit
    have t2 : ((qs.length : Int) != (qs.length : Int)) = false := by simp
    have t3 : ((0 : Int) == 0) = true := rfl
    have t4 : (((encT key z32L qs).length : Int) == ((encT key z32L qs).length : Int)) = true := by simp
    clear hT hk hr hE hrd
    generalize encT key z32L qs = E at *
    refine fn_ret (N := _) Tryd.func3 rfl Tryd.ntmps3 Tryd.results3 (by simp) ?_
    simp only [initS, Nat.reduceAdd, Nat.zero_add]
    repeat' (first | (refine wlS ?_) | (refine wlB ?_) | (refine wlE ?_) | (refine efSvao ?_; intro v oa ho) | ((with_reducible refine sel_call ?_); first | (refine wl_newO rfl rfl rfl rfl rfl (fun w hm => by with_reducible exact WR1 w (hm.below rfl) (VwB.out w hm) (VwL.out w hm)) ?_; intro x oa hx)) | (refine wl_skip rfl rfl ?_) | ((with_reducible refine wc_seq ?_); intro K hK) | (refine auC ?_) | (refine wc_cond rfl (fun hc => ?_) (fun hc => ?_)) | (refine wc_draw (by kernel_rfl) (by kernel_rfl) (by decide +kernel) ?_; intro w0 hw0 hm0; (try simp only [List.append_eq, List.cons_append, List.nil_append])) | (refine auP ?_) | ((refine auR ?_); clear hK K) | (refine auR ?_) | ((with_reducible refine hK _ _ ?_); clear hK K) | fail)
    obtain ⟨xt, xe⟩ := x
    obtain ⟨ot, oe, rfl, ho, hoe⟩ := hx
    dsimp only at *
    repeat' (first | (refine wlS ?_) | (refine wlB ?_) | (refine wlE ?_) | (refine efSvao ?_; intro v oa ho) | ((with_reducible refine sel_call ?_); first | (refine wl_newO rfl rfl rfl rfl rfl (fun w hm => by with_reducible exact RD w (hm.below rfl) (VwB.out w hm) (VwB.out w hm)) ?_; intro x oa hx)) | (refine wl_skip rfl rfl ?_) | ((with_reducible refine wc_seq ?_); intro K hK) | (refine auC ?_) | (refine wc_cond rfl (fun hc => ?_) (fun hc => ?_)) | (refine wc_draw (by kernel_rfl) (by kernel_rfl) (by decide +kernel) ?_; intro w0 hw0 hm0; (try simp only [List.append_eq, List.cons_append, List.nil_append])) | (refine auP ?_) | ((refine auR ?_); clear hK K) | (refine auR ?_) | ((with_reducible refine hK _ _ ?_); clear hK K) | fail)
    haveI := hx.is
    repeat' (first | (refine wlS ?_) | (refine wlB ?_) | ((with_reducible refine sel_call ?_); refine wl_rd rfl rfl (rd_call rfl rfl rfl (fun w hm => by with_reducible exact ST w (VwL.out w hm) (VwL.out w hm))) ?_) | (refine wlE ?_) | (refine efSvao ?_; intro v oa ho) | (refine wl_skip rfl rfl ?_) | ((with_reducible refine wc_seq ?_); intro K hK) | (refine auC ?_) | (refine wc_cond rfl (fun hc => ?_) (fun hc => ?_)) | (refine wc_draw (by kernel_rfl) (by kernel_rfl) (by decide +kernel) ?_; intro w0 hw0 hm0; (try simp only [List.append_eq, List.cons_append, List.nil_append])) | (refine auP ?_) | ((refine auR ?_); clear hK K) | (refine auR ?_) | ((with_reducible refine hK _ _ ?_); clear hK K) | fail)
    first | refine end_ret (ResP.tmp rfl ResP.nil) ?_ | refine end_normal (ResP.tmp rfl ResP.nil) ?_
    first | rfl | (show _ = _; rfl) | (simp only [tupV, *]; done)
  · have t2 : (((0 : Nat) : Int) != (qs.length : Int)) = true := by
      simp only [bne_iff_ne, ne_eq]
      intro h
      exact hfit (fitsT_small (by omega) fun r hr => by
        have : qs = [] := List.eq_nil_of_length_eq_zero (by omega)
        rw [this] at hr; cases hr)
    have WR1 := fun w'' (h0 : Below w.heap.size w w'') (h1 : Cb w'' kv nk key) (h2 : ∃ xs, Cll w'' rv qs.length xs qs) => written_no w hT w'' h0 h1 h2 (by omega) hfit
    clear hT hk hr
    refine fn_ret (N := _) Tryd.func3 rfl Tryd.ntmps3 Tryd.results3 (by simp) ?_
    simp only [initS, Nat.reduceAdd, Nat.zero_add]
    repeat' (first | (refine wlS ?_) | (refine wlB ?_) | (refine wlE ?_) | (refine efSvao ?_; intro v oa ho) | ((with_reducible refine sel_call ?_); first | (refine wl_newO rfl rfl rfl rfl rfl (fun w hm => by with_reducible exact WR1 w (hm.below rfl) (VwB.out w hm) (VwL.out w hm)) ?_; intro x oa hx)) | (refine wl_skip rfl rfl ?_) | ((with_reducible refine wc_seq ?_); intro K hK) | (refine auC ?_) | (refine wc_cond rfl (fun hc => ?_) (fun hc => ?_)) | (refine wc_draw (by kernel_rfl) (by kernel_rfl) (by decide +kernel) ?_; intro w0 hw0 hm0; (try simp only [List.append_eq, List.cons_append, List.nil_append])) | (refine auP ?_) | ((refine auR ?_); clear hK K) | (refine auR ?_) | ((with_reducible refine hK _ _ ?_); clear hK K) | fail)
    subst hx
    repeat' (first | (refine wlS ?_) | (refine wlB ?_) | (refine wlE ?_) | (refine efSvao ?_; intro v oa ho) | (refine wl_skip rfl rfl ?_) | ((with_reducible refine wc_seq ?_); intro K hK) | (refine auC ?_) | (refine wc_cond rfl (fun hc => ?_) (fun hc => ?_)) | (refine wc_draw (by kernel_rfl) (by kernel_rfl) (by decide +kernel) ?_; intro w0 hw0 hm0; (try simp only [List.append_eq, List.cons_append, List.nil_append])) | (refine auP ?_) | ((refine auR ?_); clear hK K) | (refine auR ?_) | ((with_reducible refine hK _ _ ?_); clear hK K) | fail)
    refine wc_loop (σ := Nat) (fun i => [(26, rv), (27, .int .i64 (qs.length : Int)), (28, .int .i64 (i : Int))]) (fun _ => []) (fun i => i ≤ qs.length ∧ ∀ r ∈ qs.take i, r.length ≤ 3000) (fun i => qs.length - i) 0 ⟨Nat.zero_le _, by simp⟩ (Fits.of ⟨rfl, rfl, rfl, trivial⟩ .nil rfl) ?_
    rintro i ⟨hi, hall⟩
    by_cases hlt : i < qs.length
    · have t3 : decide ((i : Int) < (qs.length : Int)) = true := decide_eq_true (by omega)
      have k1 : IntKind.i64.wrap ((i : Int) + 1) = ((i + 1 : Nat) : Int) := by rw [wrap_i64 _ (by omega) (by omega)]; omega
      have j1 : (i : Int) < (qs.length : Int) := by omega
      obtain ⟨y, q, g1, g2, g3⟩ := hE.at (i := i) (by omega)
      haveI c1 := g3.old
      by_cases hq : q.length ≤ 3000
      · have t4 : decide ((q.length : Int) > 3000) = false := decide_eq_false (by omega)
        have hn : ∀ r ∈ qs.take (i + 1), r.length ≤ 3000 := fun r hr => by
          rw [List.take_add_one, g2] at hr
          rcases List.mem_append.1 hr with h | h
          · exact hall r h
          · simp at h; rw [h]; exact hq
        clear hE WR1 hfit
        repeat' (first | (refine wlS ?_) | (refine wlB ?_) | (refine wlE ?_) | (refine efSvao ?_; intro v oa ho) | (refine wl_skip rfl rfl ?_) | ((with_reducible refine wc_seq ?_); intro K hK) | (refine auC ?_) | (refine wc_cond rfl (fun hc => ?_) (fun hc => ?_)) | (refine wc_draw (by kernel_rfl) (by kernel_rfl) (by decide +kernel) ?_; intro w0 hw0 hm0; (try simp only [List.append_eq, List.cons_append, List.nil_append])) | (refine auP ?_) | ((refine auR ?_); clear hK K) | (refine auR ?_) | ((with_reducible refine hK _ _ ?_); clear hK K) | fail)
        exact ⟨i + 1, ⟨hlt, hn⟩, by omega, Fits.of ⟨rfl, rfl, rfl, trivial⟩ .nil rfl⟩
      · have t4 : decide ((q.length : Int) > 3000) = true := decide_eq_true (by omega)
        clear hE WR1 hfit
        repeat' (first | (refine wlS ?_) | (refine wlB ?_) | (refine wlE ?_) | (refine efSvao ?_; intro v oa ho) | (refine wl_skip rfl rfl ?_) | ((with_reducible refine wc_seq ?_); intro K hK) | (refine auC ?_) | (refine wc_cond rfl (fun hc => ?_) (fun hc => ?_)) | (refine wc_draw (by kernel_rfl) (by kernel_rfl) (by decide +kernel) ?_; intro w0 hw0 hm0; (try simp only [List.append_eq, List.cons_append, List.nil_append])) | (refine auP ?_) | ((refine auR ?_); clear hK K) | (refine auR ?_) | ((with_reducible refine hK _ _ ?_); clear hK K) | fail)
        first | refine end_ret (ResP.tmp rfl ResP.nil) ?_ | refine end_normal (ResP.tmp rfl ResP.nil) ?_
        first | rfl | (show _ = _; rfl) | (simp only [tupV, *]; done)
    · obtain rfl : i = qs.length := by omega
      rw [List.take_length] at hall
      exact absurd (fitsT_small (by omega) hall) hfit
end Go.Proofs.YtlpalhagndmpjaaDoor.TapeBackWalk
