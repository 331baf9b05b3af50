/- TapeGoes: the walk. -/
import Derived.Test.YtlpalhagndmpjaaDoorJnAD
namespace Go.Proofs.YtlpalhagndmpjaaDoor.TapeGoesWalk
open Go.RowKit
attribute [local irreducible] rwA bys iw
set_option linter.unusedVariables false
set_option linter.unusedSimpArgs false
theorem take_cut (key : List Nat) {qs : List (List Nat)} {k B : Nat} (hB : (encT key z32L (qs.take B)).length ≤ k) : ((encT key z32L qs).take k).take (encT key z32L (qs.take B)).length = encT key z32L (qs.take B) := by
  have := encT_app key (qs.take B) (qs.drop B) z32L
  rw [List.take_append_drop] at this
  rw [List.take_take, Nat.min_eq_left hB, this, List.take_left]
theorem app_cut (key : List Nat) {qs : List (List Nat)} (h : ∀ r ∈ qs, r.length ≤ 4064) {k : Nat} (hk : k ≤ (encT key z32L qs).length) (rec : List Nat) :
    appT key ((encT key z32L qs).take k) rec = if rec.length ≤ 4064 ∧ (encT key z32L (qs.take (whole key z32L qs k) ++ [rec])).length ≤ 65536 then (0, encT key z32L (qs.take (whole key z32L qs k) ++ [rec])) else (2, []) := by
  have hrd := rd_cut key h hk
  have hB := (whole_at key qs z32L k (whole key z32L qs k) (whole_le _ _ _ _)).2 (Nat.le_refl _)
  have ht := take_cut key hB
  have he : encT key z32L (qs.take (whole key z32L qs k) ++ [rec]) = encT key z32L (qs.take (whole key z32L qs k)) ++ recT key (lastT key z32L (qs.take (whole key z32L qs k))) rec := by rw [encT_app, encT, encT, List.append_nil]
  rw [appT, hrd, he]
  dsimp only
  rw [ht, List.length_append]
  by_cases c1 : rec.length > 4064
  · rw [if_pos c1, if_neg (by omega)]
  · rw [if_neg c1]
    split
    · rw [if_neg (by omega)]
    · rw [if_pos (by omega)]
set_option maxHeartbeats 4000000 in
theorem clone_l (w : World) {v : Value} {m : Nat} {cs : List Value} (h : Cs w v m cs) (hl : cs.length = m) (hm : m ≤ 1048576) (one : ∀ y ∈ cs, y.oneCell' = true) :
    Calls Tryd.prog 13 [v].toArray w (RetO (fun u => u) (fun u oa => OwnL 22 1 u m cs oa) w) := by
  have i1 := h.old
  have hlen : cs.length = m * 1 := by rw [hl, Nat.mul_one]
  obtain ⟨p, c, rfl, h1, h2, h3⟩ := h.ln.out
  cases p with
  | none =>
    have hm0 : m = 0 := by
      rcases Nat.eq_zero_or_pos m with h0 | h0
      · exact h0
      · obtain ⟨_, _, hh⟩ := h3 h0; cases hh
    have hd0 : cs = [] := List.eq_nil_of_length_eq_zero (by rw [hl, hm0])
    have E : ∀ w', (binOp .eql 23 (.slice none m c) (.slice none 0 0)).run Tryd.prog w' = .ok (.bool true) w' := fun w' => sl_nil (e := 22) (by kernel_rfl) w'
    clear h h3
    subst hm0; subst hd0
    refine fn_own (N := _) Tryd.func13 rfl Tryd.ntmps13 Tryd.results13 (by simp) ?_
    simp only [initS, Nat.reduceAdd, Nat.zero_add]
    repeat' (first | (refine wlS ?_) | (refine wlB ?_) | ((with_reducible refine sel_b_eql ?_); refine wv rfl rfl (rd_eqlG rfl rfl rfl (by with_reducible exact E)) ?_) | (refine wlE ?_) | (refine efSvao ?_; intro v oa ho) | (refine wl_skip rfl rfl ?_) | ((with_reducible refine wc_seq ?_); intro K hK) | (refine auC ?_) | (refine wc_cond rfl (fun hc => ?_) (fun hc => ?_)) | (refine wc_draw (by kernel_rfl) (by kernel_rfl) (by decide +kernel) ?_; intro w0 hw0 hm0; (try simp only [List.append_eq, List.cons_append, List.nil_append])) | (refine auP ?_) | ((refine auR ?_); clear hK K) | (refine auR ?_) | ((with_reducible refine hK _ _ ?_); clear hK K) | fail)
    first | refine end_ret (ResP.tmp rfl ResP.nil) ?_ | refine end_normal (ResP.tmp rfl ResP.nil) ?_
    (try dsimp only [tupV])
    exact ⟨_, _, rfl, OwnL.nil _ _, .nil⟩
  | some a =>
    have E : ∀ w', (binOp .eql 23 (.slice (some a) m c) (.slice none 0 0)).run Tryd.prog w' = .ok (.bool false) w' := fun w' => sl_nil (e := 22) (by kernel_rfl) w'
    clear h h3
    refine fn_own (N := _) Tryd.func13 rfl Tryd.ntmps13 Tryd.results13 (by simp) ?_
    simp only [initS, Nat.reduceAdd, Nat.zero_add]
    repeat' (first | (refine wlS ?_) | (refine wlB ?_) | ((with_reducible refine sel_b_eql ?_); refine wv rfl rfl (rd_eqlG rfl rfl rfl (by with_reducible exact E)) ?_) | (refine wlE ?_) | (refine efSvao ?_; intro v oa ho) | (refine wl_skip rfl rfl ?_) | ((with_reducible refine wc_seq ?_); intro K hK) | (refine auC ?_) | (refine wc_cond rfl (fun hc => ?_) (fun hc => ?_)) | (refine wc_draw (by kernel_rfl) (by kernel_rfl) (by decide +kernel) ?_; intro w0 hw0 hm0; (try simp only [List.append_eq, List.cons_append, List.nil_append])) | (refine auP ?_) | ((refine auR ?_); clear hK K) | (refine auR ?_) | ((with_reducible refine hK _ _ ?_); clear hK K) | fail)
    first | refine end_ret (ResP.tmp rfl ResP.nil) ?_ | refine end_normal (ResP.tmp rfl ResP.nil) ?_
    (try dsimp only [tupV])
    exact ⟨_, _, rfl, by simpa using ho, SubL.refl _⟩
set_option maxRecDepth 100000 in
set_option maxHeartbeats 16000000 in
theorem walk (w : World) (hT : Tab w) {kv rv : Value} {nk rl : Nat} {key : List Nat} {xs : List Value} {qs : List (List Nat)} (hk : Cb w kv nk key) (hr : Cll w rv rl xs qs) (z : Int) (hz : (Lit.int .i64 z).wf = true) {cv : Value} {nr : Nat} {rec : List Nat} (hc : Cb w cv nr rec) :
    Calls Tryd.prog 5 [kv, rv, .int .i64 z, cv].toArray w (Ret (.bool true) w) := by
  obtain rfl : rl = qs.length := by rw [hr.el.len, hr.len]
  have i1 := hk.old
  haveI i2 := hr.cs.old
  haveI i3 := hr.old
  have i4 := hc.old
  have hxl := hr.len
  have hcl := hc.ok.len
  by_cases hbig : qs.length > 20
  · have t1 : decide ((qs.length : Int) > 20) = true := decide_eq_true (by omega)
    clear hT hk hr hc
    refine fn_ret (N := _) Tryd.func5 rfl Tryd.ntmps5 Tryd.results5 (by simp) ?_
    simp only [initS, Nat.reduceAdd, Nat.zero_add]
    repeat' (first | (refine wlS ?_) | (refine wlB ?_) | (refine wlE ?_) | (refine efSvvp ?_; intro v hv hp) | (refine efSvao ?_; intro v oa ho) | (refine wl_skip rfl rfl ?_) | (refine wdS ?_) | (refine wdV ?_) | (refine wdB ?_) | (refine wdE ?_) | (refine wd_skip rfl rfl ?_) | ((with_reducible refine seld_nil ?_); refine wd_nil hm0 ?_; clear hm0 hw0) | ((with_reducible refine wc_seq ?_); intro K hK) | (refine auC ?_) | (refine wc_cond rfl (fun hc => ?_) (fun hc => ?_)) | (refine wc_draw (by kernel_rfl) (by kernel_rfl) (by decide +kernel) ?_; intro w0 hw0 hm0; (try simp only [List.append_eq, List.cons_append, List.nil_append])) | (refine auP ?_) | ((refine auR ?_); clear hK K) | (refine auR ?_) | ((with_reducible refine hK _ _ ?_); clear hK K) | fail)
    first | refine end_ret (ResP.tmp rfl ResP.nil) ?_ | refine end_normal (ResP.tmp rfl ResP.nil) ?_
    first | rfl | (show _ = _; rfl) | (simp only [tupV, *]; done)
  have t1 : decide ((qs.length : Int) > 20) = false := decide_eq_false (by omega)
  by_cases hfit : fitsT key qs
  · have hsm := hfit.2
    have WR1 := fun w'' (h0 : Below w.heap.size w w'') (h1 : Cb w'' kv nk key) (h2 : ∃ xs, Cll w'' rv qs.length xs qs) => written_yes w hT w'' h0 h1 h2 (by omega) hfit
    have t2 : ((qs.length : Int) != (qs.length : Int)) = false := by simp
    generalize hEN : endsC key qs qs.length = EN at *
    by_cases hz0 : z < 0
    · have t3 : decide (z < 0) = true := decide_eq_true hz0
      clear hT hk hr hc
      generalize encT key z32L qs = E at *
      refine fn_ret (N := _) Tryd.func5 rfl Tryd.ntmps5 Tryd.results5 (by simp) ?_
      simp only [initS, Nat.reduceAdd, Nat.zero_add]
      repeat' (first | (refine wlS ?_) | (refine wlB ?_) | (refine wlE ?_) | (refine efSvvp ?_; intro v hv hp) | (refine efSvao ?_; intro v oa ho) | ((with_reducible refine sel_call ?_); first | (refine wl_newO rfl rfl rfl rfl rfl (fun w hm => by with_reducible exact WR1 w (hm.below rfl) (VwB.out w hm) (VwL.out w hm)) ?_; intro x oa hx)) | (refine wl_skip rfl rfl ?_) | (refine wdS ?_) | (refine wdV ?_) | (refine wdB ?_) | (refine wdE ?_) | (refine wd_skip rfl rfl ?_) | ((with_reducible refine seld_nil ?_); refine wd_nil hm0 ?_; clear hm0 hw0) | ((with_reducible refine wc_seq ?_); intro K hK) | (refine auC ?_) | (refine wc_cond rfl (fun hc => ?_) (fun hc => ?_)) | (refine wc_draw (by kernel_rfl) (by kernel_rfl) (by decide +kernel) ?_; intro w0 hw0 hm0; (try simp only [List.append_eq, List.cons_append, List.nil_append])) | (refine auP ?_) | ((refine auR ?_); clear hK K) | (refine auR ?_) | ((with_reducible refine hK _ _ ?_); clear hK K) | fail)
      obtain ⟨xt, xe⟩ := x
      obtain ⟨ot, oe, rfl, ho, hoe⟩ := hx
      dsimp only at *
      repeat' (first | (refine wlS ?_) | (refine wlB ?_) | (refine wlE ?_) | (refine efSvvp ?_; intro v hv hp) | (refine efSvao ?_; intro v oa ho) | (refine wl_skip rfl rfl ?_) | (refine wdS ?_) | (refine wdV ?_) | (refine wdB ?_) | (refine wdE ?_) | (refine wd_skip rfl rfl ?_) | ((with_reducible refine seld_nil ?_); refine wd_nil hm0 ?_; clear hm0 hw0) | ((with_reducible refine wc_seq ?_); intro K hK) | (refine auC ?_) | (refine wc_cond rfl (fun hc => ?_) (fun hc => ?_)) | (refine wc_draw (by kernel_rfl) (by kernel_rfl) (by decide +kernel) ?_; intro w0 hw0 hm0; (try simp only [List.append_eq, List.cons_append, List.nil_append])) | (refine auP ?_) | ((refine auR ?_); clear hK K) | (refine auR ?_) | ((with_reducible refine hK _ _ ?_); clear hK K) | fail)
      first | refine end_ret (ResP.tmp rfl ResP.nil) ?_ | refine end_normal (ResP.tmp rfl ResP.nil) ?_
      first | rfl | (show _ = _; rfl) | (simp only [tupV, *]; done)
    have t3 : decide (z < 0) = false := decide_eq_false hz0
    by_cases hz1 : z > ((encT key z32L qs).length : Int)
    · have t4 : decide (z > ((encT key z32L qs).length : Int)) = true := decide_eq_true hz1
      clear hT hk hr hc
      generalize encT key z32L qs = E at *
      refine fn_ret (N := _) Tryd.func5 rfl Tryd.ntmps5 Tryd.results5 (by simp) ?_
      simp only [initS, Nat.reduceAdd, Nat.zero_add]
      repeat' (first | (refine wlS ?_) | (refine wlB ?_) | (refine wlE ?_) | (refine efSvvp ?_; intro v hv hp) | (refine efSvao ?_; intro v oa ho) | ((with_reducible refine sel_call ?_); first | (refine wl_newO rfl rfl rfl rfl rfl (fun w hm => by with_reducible exact WR1 w (hm.below rfl) (VwB.out w hm) (VwL.out w hm)) ?_; intro x oa hx)) | (refine wl_skip rfl rfl ?_) | (refine wdS ?_) | (refine wdV ?_) | (refine wdB ?_) | (refine wdE ?_) | (refine wd_skip rfl rfl ?_) | ((with_reducible refine seld_nil ?_); refine wd_nil hm0 ?_; clear hm0 hw0) | ((with_reducible refine wc_seq ?_); intro K hK) | (refine auC ?_) | (refine wc_cond rfl (fun hc => ?_) (fun hc => ?_)) | (refine wc_draw (by kernel_rfl) (by kernel_rfl) (by decide +kernel) ?_; intro w0 hw0 hm0; (try simp only [List.append_eq, List.cons_append, List.nil_append])) | (refine auP ?_) | ((refine auR ?_); clear hK K) | (refine auR ?_) | ((with_reducible refine hK _ _ ?_); clear hK K) | fail)
      obtain ⟨xt, xe⟩ := x
      obtain ⟨ot, oe, rfl, ho, hoe⟩ := hx
      dsimp only at *
      repeat' (first | (refine wlS ?_) | (refine wlB ?_) | (refine wlE ?_) | (refine efSvvp ?_; intro v hv hp) | (refine efSvao ?_; intro v oa ho) | (refine wl_skip rfl rfl ?_) | (refine wdS ?_) | (refine wdV ?_) | (refine wdB ?_) | (refine wdE ?_) | (refine wd_skip rfl rfl ?_) | ((with_reducible refine seld_nil ?_); refine wd_nil hm0 ?_; clear hm0 hw0) | ((with_reducible refine wc_seq ?_); intro K hK) | (refine auC ?_) | (refine wc_cond rfl (fun hc => ?_) (fun hc => ?_)) | (refine wc_draw (by kernel_rfl) (by kernel_rfl) (by decide +kernel) ?_; intro w0 hw0 hm0; (try simp only [List.append_eq, List.cons_append, List.nil_append])) | (refine auP ?_) | ((refine auR ?_); clear hK K) | (refine auR ?_) | ((with_reducible refine hK _ _ ?_); clear hK K) | fail)
      first | refine end_ret (ResP.tmp rfl ResP.nil) ?_ | refine end_normal (ResP.tmp rfl ResP.nil) ?_
      first | rfl | (show _ = _; rfl) | (simp only [tupV, *]; done)
    have t4 : decide (z > ((encT key z32L qs).length : Int)) = false := decide_eq_false hz1
    obtain ⟨k, rfl⟩ := Int.eq_ofNat_of_zero_le (Int.not_lt.1 hz0)
    have hkl : k ≤ (encT key z32L qs).length := by omega
    have hrd := rd_cut key hfit.1 hkl
    have hac := app_cut key hfit.1 hkl rec
    obtain ⟨B, hB⟩ : ∃ B, B = whole key z32L qs k := ⟨_, rfl⟩
    have hBl : B ≤ qs.length := by rw [hB]; exact whole_le _ _ _ _
    have hAk : (encT key z32L (qs.take B)).length ≤ k := by rw [hB]; exact (whole_at key qs z32L k _ (whole_le _ _ _ _)).2 (Nat.le_refl _)
    have htc := take_cut key hAk
    have hAE : (encT key z32L (qs.take B)).length ≤ (encT key z32L qs).length := encT_take key
    have htE : (encT key z32L qs).take (encT key z32L (qs.take B)).length = encT key z32L (qs.take B) := by rwa [List.take_take, Nat.min_eq_left hAk] at htc
    rw [← hB] at hrd hac
    obtain ⟨er, her⟩ : ∃ er, er = (rdT key ((encT key z32L qs).take k)).e := ⟨_, rfl⟩
    have RD : ∀ w'', Below w.heap.size w w'' → ∀ {tv : Value}, Cb w'' tv k ((encT key z32L qs).take k) → Cb w'' kv nk key → Calls Tryd.prog 8 [tv, kv].toArray w'' (RetO (fun v : Value => .tuple #[v, .int .i64 ((encT key z32L (qs.take B)).length : Int), .int .i64 (er : Int)]) (fun v oa => OwnLL 22 v (qs.take B) oa) w'') := fun w'' h0 _ h1 h2 => by
      have := read_t w hT w'' h0 h1 h2 (by omega)
      rw [← her, hrd] at this
      exact this
    have hTl : (qs.take B).length = B := by rw [List.length_take]; omega
    have d1 : ((encT key z32L qs).drop 0).take (k - 0) = (encT key z32L qs).take k := rfl
    have d4 : k - 0 = k := rfl
    by_cases hgo : rec.length ≤ 4064 ∧ (encT key z32L (qs.take B ++ [rec])).length ≤ 65536
    · rw [if_pos hgo] at hac
      have hfB : ∀ r ∈ qs.take B ++ [rec], r.length ≤ 4064 := fun r hr => by
        rcases List.mem_append.1 hr with h | h
        · exact hfit.1 r (List.mem_of_mem_take h)
        · simp only [List.mem_singleton] at h; rw [h]; exact hgo.1
      have hr2 := rd_enc key hfB
      have hgs := hgo.2
      have heq : encT key z32L (qs.take B ++ [rec]) = encT key z32L (qs.take B) ++ recT key (lastT key z32L (qs.take B)) rec := by rw [encT_app, encT, encT, List.append_nil]
      have htU : (encT key z32L (qs.take B ++ [rec])).take (encT key z32L (qs.take B)).length = encT key z32L (qs.take B) := by rw [heq, List.take_left]
      have hAU : (encT key z32L (qs.take B)).length ≤ (encT key z32L (qs.take B ++ [rec])).length := by rw [heq, List.length_append]; omega
      have AP : ∀ w'', Below w.heap.size w w'' → ∀ {tv : Value}, Cb w'' tv k ((encT key z32L qs).take k) → Cb w'' kv nk key → Cb w'' cv nr rec → Calls Tryd.prog 11 [tv, kv, cv].toArray w'' (RetO (fun v : Value => .tuple #[v, .int .i64 0]) (fun v oa => OwnB 5 v (encT key z32L (qs.take B ++ [rec])).length (encT key z32L (qs.take B ++ [rec])) oa) w'') := fun w'' h0 _ h1 h2 h3 => by
        have := append_t w hT w'' h0 h1 h2 h3 (by omega)
        rwa [hac] at this
      have RD2 : ∀ w'', Below w.heap.size w w'' → ∀ {tv : Value}, Cb w'' tv (encT key z32L (qs.take B ++ [rec])).length (encT key z32L (qs.take B ++ [rec])) → Cb w'' kv nk key → Calls Tryd.prog 8 [tv, kv].toArray w'' (RetO (fun v : Value => .tuple #[v, .int .i64 ((encT key z32L (qs.take B ++ [rec])).length : Int), .int .i64 0]) (fun v oa => OwnLL 22 v (qs.take B ++ [rec]) oa) w'') := fun w'' h0 _ h1 h2 => by
        have := read_t w hT w'' h0 h1 h2 (by omega)
        rwa [hr2] at this
      have t5 : ((0 : Int) != 0) = false := rfl
      have t6 : ((0 : Int) == 0) = true := rfl
      clear hT hr hc hrd hac her hEN hB heq hr2 hfB hk
      generalize encT key z32L qs = E at *
      generalize encT key z32L (qs.take B ++ [rec]) = U at *
      generalize encT key z32L (qs.take B) = F at *
      have t7 : decide ((F.length : Int) < 0) = false := decide_eq_false (by omega)
      have t8 : decide ((F.length : Int) > (k : Int)) = false := decide_eq_false (by omega)
      have t9 : decide ((F.length : Int) > (U.length : Int)) = false := decide_eq_false (by omega)
      have ta : ((U.length : Int) == (U.length : Int)) = true := by simp
      have d2 : (U.drop 0).take (F.length - 0) = F := htU
      have d3 : (E.drop 0).take (F.length - 0) = F := htE
      have d5 : F.length - 0 = F.length := rfl
      have tq : (F == F) = true := by simp
      have BE := fun w' {v u : Value} {n m : Nat} {p q : List Nat} {r : Bool} (hv : Cb w' v n p) (hu : Cb w' u m q) (h : (p == q) = r) => beq_r w' hv hu h
      refine fn_ret (N := _) Tryd.func5 rfl Tryd.ntmps5 Tryd.results5 (by simp) ?_
      simp only [initS, Nat.reduceAdd, Nat.zero_add]
      repeat' (first | (refine wlS ?_) | (refine wlB ?_) | (refine wlE ?_) | (refine efSvvp ?_; intro v hv hp) | (refine efSvao ?_; intro v oa ho) | ((with_reducible refine sel_call ?_); first | (refine wl_newO rfl rfl rfl rfl rfl (fun w hm => by with_reducible exact WR1 w (hm.below rfl) (VwB.out w hm) (VwL.out w hm)) ?_; intro x oa hx)) | (refine wl_skip rfl rfl ?_) | (refine wdS ?_) | (refine wdV ?_) | (refine wdB ?_) | (refine wdE ?_) | (refine wd_skip rfl rfl ?_) | ((with_reducible refine seld_nil ?_); refine wd_nil hm0 ?_; clear hm0 hw0) | ((with_reducible refine wc_seq ?_); intro K hK) | (refine auC ?_) | (refine wc_cond rfl (fun hc => ?_) (fun hc => ?_)) | (refine wc_draw (by kernel_rfl) (by kernel_rfl) (by decide +kernel) ?_; intro w0 hw0 hm0; (try simp only [List.append_eq, List.cons_append, List.nil_append])) | (refine auP ?_) | ((refine auR ?_); clear hK K) | (refine auR ?_) | ((with_reducible refine hK _ _ ?_); clear hK K) | fail)
      obtain ⟨xt, xe⟩ := x
      obtain ⟨ot, oe, rfl, ho, hoe⟩ := hx
      dsimp only at *
      repeat' (first | (refine wlS ?_) | (refine wlB ?_) | (refine wlE ?_) | (refine efSvvp ?_; intro v hv hp) | (refine efSvao ?_; intro v oa ho) | ((with_reducible refine sel_call ?_); first | (refine wl_newO rfl rfl rfl rfl rfl (fun w hm => by with_reducible exact RD w (hm.below rfl) (VwB.out w hm) (VwB.out w hm)) ?_; intro x oa hx)) | (refine wl_skip rfl rfl ?_) | (refine wdS ?_) | (refine wdV ?_) | (refine wdB ?_) | (refine wdE ?_) | (refine wd_skip rfl rfl ?_) | ((with_reducible refine seld_nil ?_); refine wd_nil hm0 ?_; clear hm0 hw0) | ((with_reducible refine wc_seq ?_); intro K hK) | (refine auC ?_) | (refine wc_cond rfl (fun hc => ?_) (fun hc => ?_)) | (refine wc_draw (by kernel_rfl) (by kernel_rfl) (by decide +kernel) ?_; intro w0 hw0 hm0; (try simp only [List.append_eq, List.cons_append, List.nil_append])) | (refine auP ?_) | ((refine auR ?_); clear hK K) | (refine auR ?_) | ((with_reducible refine hK _ _ ?_); clear hK K) | fail)
      obtain ⟨vo, rfl⟩ : ∃ vo, vo = x := ⟨x, rfl⟩
      obtain ⟨oo, ob, ys, rfl, hol, hbod⟩ := hx.out
      haveI := hol
      repeat' (first | (refine wlS ?_) | (refine wlB ?_) | (refine wlE ?_) | (refine efSvvp ?_; intro v hv hp) | (refine efSvao ?_; intro v oa ho) | ((with_reducible refine sel_call ?_); first | (refine wl_newO rfl rfl rfl rfl rfl (fun w hm => by with_reducible exact AP w (hm.below rfl) (VwB.out w hm) (VwB.out w hm) (VwB.out w hm)) ?_; intro x oa hx)) | (refine wl_skip rfl rfl ?_) | (refine wdS ?_) | (refine wdV ?_) | (refine wdB ?_) | (refine wdE ?_) | (refine wd_skip rfl rfl ?_) | ((with_reducible refine seld_nil ?_); refine wd_nil hm0 ?_; clear hm0 hw0) | ((with_reducible refine wc_seq ?_); intro K hK) | (refine auC ?_) | (refine wc_cond rfl (fun hc => ?_) (fun hc => ?_)) | (refine wc_draw (by kernel_rfl) (by kernel_rfl) (by decide +kernel) ?_; intro w0 hw0 hm0; (try simp only [List.append_eq, List.cons_append, List.nil_append])) | (refine auP ?_) | ((refine auR ?_); clear hK K) | (refine auR ?_) | ((with_reducible refine hK _ _ ?_); clear hK K) | fail)
      repeat' (first | (refine wlS ?_) | (refine wlB ?_) | (refine wlE ?_) | (refine efSvvp ?_; intro v hv hp) | (refine efSvao ?_; intro v oa ho) | ((with_reducible refine sel_call ?_); first | (refine wl_newO rfl rfl rfl rfl rfl (fun w hm => by with_reducible exact RD2 w (hm.below rfl) (VwB.out w hm) (VwB.out w hm)) ?_; intro x oa hx)) | (refine wl_skip rfl rfl ?_) | ((with_reducible refine wc_seq ?_); intro K hK) | (refine auC ?_) | (refine wc_cond rfl (fun hc => ?_) (fun hc => ?_)) | (refine auP ?_) | ((refine auR ?_); clear hK K) | (refine auR ?_) | ((with_reducible refine hK _ _ ?_); clear hK K) | fail)
      haveI := hx.is
      have hlen : (qs.take B ++ [rec]).length = (qs.take B).length + 1 := by rw [List.length_append]; rfl
      have CL1 := fun w'' (h : Cs w'' vo (qs.take B).length ys) (h' : Hd ob w'') => clone_l w'' h hbod.1 (by omega) (hbod.2 w'' h').one
      have ST1 := fun w'' {va vb : Value} (h1 : ∃ xs, Cll w'' va (qs.take B ++ [rec]).length xs (qs.take B ++ [rec])) (h2 : Cs w'' vb ((qs.take B).length + 1) (ys ++ [cv])) (h3 : Hd ob w'') (h4 : Cb w'' cv nr rec) => sameTexts_t w'' h1 ⟨ys ++ [cv], by rw [hlen]; exact h2, by rw [List.length_append, hbod.1, hlen]; rfl, Els.app (hbod.2 w'' h3) (show Els w'' [cv] [rec] from ⟨by rw [hcl]; exact h4, trivial⟩)⟩ (r := true) (by simp) (by omega)
      clear RD RD2 AP WR1
      repeat' (first | (refine wlS ?_) | (refine wlB ?_) | ((with_reducible refine sel_call ?_); refine wl_rd rfl rfl (rd_call rfl rfl rfl (fun w hm => by with_reducible first | exact BE w (VwB.out w hm) (VwB.out w hm) (by with_reducible assumption) | exact ST1 w (VwL.out w hm) (Vw.out w hm) (Hold.out w hm) (VwB.out w hm))) ?_) | (refine wlE ?_) | (refine efSvvp ?_; intro v hv hp) | (refine efSvao ?_; intro v oa ho) | ((with_reducible refine sel_call ?_); first | (refine wl_newO rfl rfl rfl rfl rfl (fun w hm => by with_reducible exact CL1 w (Vw.out w hm) (Hold.out w hm)) ?_; intro x oa hx)) | (refine wl_skip rfl rfl ?_) | ((with_reducible refine wc_seq ?_); intro K hK) | (refine auC ?_) | (refine wc_cond rfl (fun hc => ?_) (fun hc => ?_)) | ((with_reducible refine wc_drawT (by kernel_rfl) ?_); (try simp only [List.append_eq, List.cons_append, List.nil_append, List.length_cons, List.length_nil, Nat.reduceAdd])) | ((with_reducible refine sel_wh ?_); (refine wh_if (by decide +kernel) ?_); first | (refine wh_take (lq := []) rfl rfl rfl rfl (by first | exact rvS | exact rvB | exact rvE) (Or.inl rfl) ?_) | (refine wh_takeL rfl rfl rfl rfl (by first | exact rvS | exact rvB | exact rvE) (by decide +kernel) ?_)) | (refine whS ?_; intro v hv hp) | ((with_reducible refine sel_wh ?_); first | (refine wh_pass rfl rfl rfl rfl ?_) | (refine wh_done rfl ?_) | (refine wh_all rfl ?_)) | ((with_reducible refine sel_rest ?_); first | exact rest_nil rfl | refine rest_cons rfl rfl ?_ ?_) | ((with_reducible refine sel_nx ?_); first | refine next_of ?_ | refine next_late (by decide +kernel) ?_) | (refine auP ?_) | ((refine auR ?_); clear hK K) | (refine auR ?_) | ((with_reducible refine hK _ _ ?_); clear hK K) | fail)
      all_goals (
        first | refine end_ret (ResP.tmp rfl ResP.nil) ?_ | refine end_normal (ResP.tmp rfl ResP.nil) ?_
        first | rfl | (show _ = _; rfl) | (simp only [tupV, *]; done))
    · rw [if_neg hgo] at hac
      have hdec : (decide ((nr : Int) > 4064) = true) ∨ (decide ((nr : Int) > 4064) = false ∧ decide (((encT key z32L qs).length : Int) > 60000) = true) := by
        by_cases h : nr > 4064
        · exact .inl (decide_eq_true (by omega))
        · refine .inr ⟨decide_eq_false (by omega), decide_eq_true ?_⟩
          have h1 : ¬ (encT key z32L (qs.take B ++ [rec])).length ≤ 65536 := fun h' => hgo ⟨by omega, h'⟩
          rw [encT_app, encT, encT, List.append_nil, List.length_append] at h1
          have h2 := (recT_len key (lastT key z32L (qs.take B)) rec).1
          omega
      have AP : ∀ w'', Below w.heap.size w w'' → ∀ {tv : Value}, Cb w'' tv k ((encT key z32L qs).take k) → Cb w'' kv nk key → Cb w'' cv nr rec → Calls Tryd.prog 11 [tv, kv, cv].toArray w'' (RetO (fun v : Value => .tuple #[v, .int .i64 2]) (fun v oa => OwnB 5 v 0 [] oa) w'') := fun w'' h0 _ h1 h2 h3 => by
        have := append_t w hT w'' h0 h1 h2 h3 (by omega)
        rwa [hac] at this
      have t5 : ((2 : Int) != 0) = true := rfl
      have t6 : (((0 : Nat) : Int) == 0) = true := rfl
      clear hT hr hc hrd hac her hEN hB hgo hk
      generalize encT key z32L qs = E at *
      rcases hdec with t7 | ⟨t7, t8⟩
      · refine fn_ret (N := _) Tryd.func5 rfl Tryd.ntmps5 Tryd.results5 (by simp) ?_
        simp only [initS, Nat.reduceAdd, Nat.zero_add]
        repeat' (first | (refine wlS ?_) | (refine wlB ?_) | (refine wlE ?_) | (refine efSvvp ?_; intro v hv hp) | (refine efSvao ?_; intro v oa ho) | ((with_reducible refine sel_call ?_); first | (refine wl_newO rfl rfl rfl rfl rfl (fun w hm => by with_reducible exact WR1 w (hm.below rfl) (VwB.out w hm) (VwL.out w hm)) ?_; intro x oa hx)) | (refine wl_skip rfl rfl ?_) | (refine wdS ?_) | (refine wdV ?_) | (refine wdB ?_) | (refine wdE ?_) | (refine wd_skip rfl rfl ?_) | ((with_reducible refine seld_nil ?_); refine wd_nil hm0 ?_; clear hm0 hw0) | ((with_reducible refine wc_seq ?_); intro K hK) | (refine auC ?_) | (refine wc_cond rfl (fun hc => ?_) (fun hc => ?_)) | (refine wc_draw (by kernel_rfl) (by kernel_rfl) (by decide +kernel) ?_; intro w0 hw0 hm0; (try simp only [List.append_eq, List.cons_append, List.nil_append])) | (refine auP ?_) | ((refine auR ?_); clear hK K) | (refine auR ?_) | ((with_reducible refine hK _ _ ?_); clear hK K) | fail)
        obtain ⟨xt, xe⟩ := x
        obtain ⟨ot, oe, rfl, ho, hoe⟩ := hx
        dsimp only at *
        repeat' (first | (refine wlS ?_) | (refine wlB ?_) | (refine wlE ?_) | (refine efSvvp ?_; intro v hv hp) | (refine efSvao ?_; intro v oa ho) | ((with_reducible refine sel_call ?_); first | (refine wl_newO rfl rfl rfl rfl rfl (fun w hm => by with_reducible exact RD w (hm.below rfl) (VwB.out w hm) (VwB.out w hm)) ?_; intro x oa hx)) | (refine wl_skip rfl rfl ?_) | (refine wdS ?_) | (refine wdV ?_) | (refine wdB ?_) | (refine wdE ?_) | (refine wd_skip rfl rfl ?_) | ((with_reducible refine seld_nil ?_); refine wd_nil hm0 ?_; clear hm0 hw0) | ((with_reducible refine wc_seq ?_); intro K hK) | (refine auC ?_) | (refine wc_cond rfl (fun hc => ?_) (fun hc => ?_)) | (refine wc_draw (by kernel_rfl) (by kernel_rfl) (by decide +kernel) ?_; intro w0 hw0 hm0; (try simp only [List.append_eq, List.cons_append, List.nil_append])) | (refine auP ?_) | ((refine auR ?_); clear hK K) | (refine auR ?_) | ((with_reducible refine hK _ _ ?_); clear hK K) | fail)
        repeat' (first | (refine wlS ?_) | (refine wlB ?_) | (refine wlE ?_) | (refine efSvvp ?_; intro v hv hp) | (refine efSvao ?_; intro v oa ho) | ((with_reducible refine sel_call ?_); first | (refine wl_newO rfl rfl rfl rfl rfl (fun w hm => by with_reducible exact AP w (hm.below rfl) (VwB.out w hm) (VwB.out w hm) (VwB.out w hm)) ?_; intro x oa hx)) | (refine wl_skip rfl rfl ?_) | (refine wdS ?_) | (refine wdV ?_) | (refine wdB ?_) | (refine wdE ?_) | (refine wd_skip rfl rfl ?_) | ((with_reducible refine seld_nil ?_); refine wd_nil hm0 ?_; clear hm0 hw0) | ((with_reducible refine wc_seq ?_); intro K hK) | (refine auC ?_) | (refine wc_cond rfl (fun hc => ?_) (fun hc => ?_)) | (refine wc_draw (by kernel_rfl) (by kernel_rfl) (by decide +kernel) ?_; intro w0 hw0 hm0; (try simp only [List.append_eq, List.cons_append, List.nil_append])) | (refine auP ?_) | ((refine auR ?_); clear hK K) | (refine auR ?_) | ((with_reducible refine hK _ _ ?_); clear hK K) | fail)
        first | refine end_ret (ResP.tmp rfl ResP.nil) ?_ | refine end_normal (ResP.tmp rfl ResP.nil) ?_
        first | rfl | (show _ = _; rfl) | (simp only [tupV, *]; done)
      · refine fn_ret (N := _) Tryd.func5 rfl Tryd.ntmps5 Tryd.results5 (by simp) ?_
        simp only [initS, Nat.reduceAdd, Nat.zero_add]
        repeat' (first | (refine wlS ?_) | (refine wlB ?_) | (refine wlE ?_) | (refine efSvvp ?_; intro v hv hp) | (refine efSvao ?_; intro v oa ho) | ((with_reducible refine sel_call ?_); first | (refine wl_newO rfl rfl rfl rfl rfl (fun w hm => by with_reducible exact WR1 w (hm.below rfl) (VwB.out w hm) (VwL.out w hm)) ?_; intro x oa hx)) | (refine wl_skip rfl rfl ?_) | (refine wdS ?_) | (refine wdV ?_) | (refine wdB ?_) | (refine wdE ?_) | (refine wd_skip rfl rfl ?_) | ((with_reducible refine seld_nil ?_); refine wd_nil hm0 ?_; clear hm0 hw0) | ((with_reducible refine wc_seq ?_); intro K hK) | (refine auC ?_) | (refine wc_cond rfl (fun hc => ?_) (fun hc => ?_)) | (refine wc_draw (by kernel_rfl) (by kernel_rfl) (by decide +kernel) ?_; intro w0 hw0 hm0; (try simp only [List.append_eq, List.cons_append, List.nil_append])) | (refine auP ?_) | ((refine auR ?_); clear hK K) | (refine auR ?_) | ((with_reducible refine hK _ _ ?_); clear hK K) | fail)
        obtain ⟨xt, xe⟩ := x
        obtain ⟨ot, oe, rfl, ho, hoe⟩ := hx
        dsimp only at *
        repeat' (first | (refine wlS ?_) | (refine wlB ?_) | (refine wlE ?_) | (refine efSvvp ?_; intro v hv hp) | (refine efSvao ?_; intro v oa ho) | ((with_reducible refine sel_call ?_); first | (refine wl_newO rfl rfl rfl rfl rfl (fun w hm => by with_reducible exact RD w (hm.below rfl) (VwB.out w hm) (VwB.out w hm)) ?_; intro x oa hx)) | (refine wl_skip rfl rfl ?_) | (refine wdS ?_) | (refine wdV ?_) | (refine wdB ?_) | (refine wdE ?_) | (refine wd_skip rfl rfl ?_) | ((with_reducible refine seld_nil ?_); refine wd_nil hm0 ?_; clear hm0 hw0) | ((with_reducible refine wc_seq ?_); intro K hK) | (refine auC ?_) | (refine wc_cond rfl (fun hc => ?_) (fun hc => ?_)) | (refine wc_draw (by kernel_rfl) (by kernel_rfl) (by decide +kernel) ?_; intro w0 hw0 hm0; (try simp only [List.append_eq, List.cons_append, List.nil_append])) | (refine auP ?_) | ((refine auR ?_); clear hK K) | (refine auR ?_) | ((with_reducible refine hK _ _ ?_); clear hK K) | fail)
        repeat' (first | (refine wlS ?_) | (refine wlB ?_) | (refine wlE ?_) | (refine efSvvp ?_; intro v hv hp) | (refine efSvao ?_; intro v oa ho) | ((with_reducible refine sel_call ?_); first | (refine wl_newO rfl rfl rfl rfl rfl (fun w hm => by with_reducible exact AP w (hm.below rfl) (VwB.out w hm) (VwB.out w hm) (VwB.out w hm)) ?_; intro x oa hx)) | (refine wl_skip rfl rfl ?_) | (refine wdS ?_) | (refine wdV ?_) | (refine wdB ?_) | (refine wdE ?_) | (refine wd_skip rfl rfl ?_) | ((with_reducible refine seld_nil ?_); refine wd_nil hm0 ?_; clear hm0 hw0) | ((with_reducible refine wc_seq ?_); intro K hK) | (refine auC ?_) | (refine wc_cond rfl (fun hc => ?_) (fun hc => ?_)) | (refine wc_draw (by kernel_rfl) (by kernel_rfl) (by decide +kernel) ?_; intro w0 hw0 hm0; (try simp only [List.append_eq, List.cons_append, List.nil_append])) | (refine auP ?_) | ((refine auR ?_); clear hK K) | (refine auR ?_) | ((with_reducible refine hK _ _ ?_); clear hK K) | fail)
        first | refine end_ret (ResP.tmp rfl ResP.nil) ?_ | refine end_normal (ResP.tmp rfl ResP.nil) ?_
        first | rfl | (show _ = _; rfl) | (simp only [tupV, *]; done)
  · have t2 : (((0 : Nat) : Int) != (qs.length : Int)) = true := by
      simp only [bne_iff_ne, ne_eq]
      intro h
      exact hfit (fitsT_small (by omega) fun r hr => by
        have : qs = [] := List.eq_nil_of_length_eq_zero (by omega)
        rw [this] at hr; cases hr)
    have WR1 := fun w'' (h0 : Below w.heap.size w w'') (h1 : Cb w'' kv nk key) (h2 : ∃ xs, Cll w'' rv qs.length xs qs) => written_no w hT w'' h0 h1 h2 (by omega) hfit
    clear hT hk hr hc
    refine fn_ret (N := _) Tryd.func5 rfl Tryd.ntmps5 Tryd.results5 (by simp) ?_
    simp only [initS, Nat.reduceAdd, Nat.zero_add]
    repeat' (first | (refine wlS ?_) | (refine wlB ?_) | (refine wlE ?_) | (refine efSvvp ?_; intro v hv hp) | (refine efSvao ?_; intro v oa ho) | ((with_reducible refine sel_call ?_); first | (refine wl_newO rfl rfl rfl rfl rfl (fun w hm => by with_reducible exact WR1 w (hm.below rfl) (VwB.out w hm) (VwL.out w hm)) ?_; intro x oa hx)) | (refine wl_skip rfl rfl ?_) | (refine wdS ?_) | (refine wdV ?_) | (refine wdB ?_) | (refine wdE ?_) | (refine wd_skip rfl rfl ?_) | ((with_reducible refine seld_nil ?_); refine wd_nil hm0 ?_; clear hm0 hw0) | ((with_reducible refine wc_seq ?_); intro K hK) | (refine auC ?_) | (refine wc_cond rfl (fun hc => ?_) (fun hc => ?_)) | (refine wc_draw (by kernel_rfl) (by kernel_rfl) (by decide +kernel) ?_; intro w0 hw0 hm0; (try simp only [List.append_eq, List.cons_append, List.nil_append])) | (refine auP ?_) | ((refine auR ?_); clear hK K) | (refine auR ?_) | ((with_reducible refine hK _ _ ?_); clear hK K) | fail)
    subst hx
    repeat' (first | (refine wlS ?_) | (refine wlB ?_) | (refine wlE ?_) | (refine efSvvp ?_; intro v hv hp) | (refine efSvao ?_; intro v oa ho) | (refine wl_skip rfl rfl ?_) | (refine wdS ?_) | (refine wdV ?_) | (refine wdB ?_) | (refine wdE ?_) | (refine wd_skip rfl rfl ?_) | ((with_reducible refine seld_nil ?_); refine wd_nil hm0 ?_; clear hm0 hw0) | ((with_reducible refine wc_seq ?_); intro K hK) | (refine auC ?_) | (refine wc_cond rfl (fun hc => ?_) (fun hc => ?_)) | (refine wc_draw (by kernel_rfl) (by kernel_rfl) (by decide +kernel) ?_; intro w0 hw0 hm0; (try simp only [List.append_eq, List.cons_append, List.nil_append])) | (refine auP ?_) | ((refine auR ?_); clear hK K) | (refine auR ?_) | ((with_reducible refine hK _ _ ?_); clear hK K) | fail)
    first | refine end_ret (ResP.tmp rfl ResP.nil) ?_ | refine end_normal (ResP.tmp rfl ResP.nil) ?_
    first | rfl | (show _ = _; rfl) | (simp only [tupV, *]; done)
end Go.Proofs.YtlpalhagndmpjaaDoor.TapeGoesWalk
