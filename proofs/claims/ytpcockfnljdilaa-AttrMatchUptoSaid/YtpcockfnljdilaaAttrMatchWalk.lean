/- AttrMatch: the walk. -/
import Derived.Test.YtpcockfnljdilaaAttrM
namespace Go.Proofs.Ytpcockfnljdilaa.AttrMatchWalk
open Go.RowKit
set_option linter.unusedVariables false
set_option maxRecDepth 100000
set_option linter.unusedSimpArgs false
theorem one_ats {w : World} {v : Value} {l : List Att} (h : Ats w v l) : ∀ y ∈ atsC l, y.oneCell' = true := fun y hy => by
  obtain ⟨a, ha, hy⟩ := List.mem_flatten.1 hy
  obtain ⟨x, hx, rfl⟩ := List.mem_map.1 ha
  simp only [atC, List.mem_cons, List.not_mem_nil, or_false] at hy
  rcases hy with rfl | rfl
  · rfl
  · obtain ⟨_, _, hv, _⟩ := (h.body x hx).cs.ln.out
    rw [hv]; rfl
set_option maxHeartbeats 8000000 in
theorem walk (w : World) {u v x : Value} {l a b : List Att} (hu : Ats w u l) (hv : Ats w v a) (hx : Ats w x b) (ha : a.length ≤ 1048576) (hb : b.length ≤ 1048576) :
    Calls Try.prog 8 [u, v, x].toArray w (Ret (.bool true) w) := by
  have i1 := hv.cs.old
  have i2 := hx.cs.old
  have M0 : ∀ w', Below w.heap.size w w' → Calls Try.prog 22 [u, .slice none 0 0].toArray w' (Ret (.bool true) w') := fun w' h => match_c w' (hu.below h) (ask := []) ⟨⟨⟨none, 0, rfl, by decide, by decide, fun h => absurd h (Nat.lt_irrefl 0)⟩, fun j u hj => by simp [atsC] at hj⟩, fun x hx => by simp at hx⟩
  have M1 : ∀ w', Below w.heap.size w w' → Calls Try.prog 22 [u, v].toArray w' (Ret (.bool (matchB l a)) w') := fun w' h => match_c w' (hu.below h) (hv.below h)
  have M2 : ∀ w', Below w.heap.size w w' → Calls Try.prog 22 [u, x].toArray w' (Ret (.bool (matchB l b)) w') := fun w' h => match_c w' (hu.below h) (hx.below h)
  have M3 : ∀ w', Below w.heap.size w w' → Calls Try.prog 22 [v, x].toArray w' (Ret (.bool (matchB a b)) w') := fun w' h => match_c w' (hv.below h) (hx.below h)
  have M5 : ∀ w' v', Below w.heap.size w w' → Cs w' v' (0 + a.length + b.length) ([] ++ atsC a ++ atsC b) → Calls Try.prog 22 [u, v'].toArray w' (Ret (.bool (matchB l a && matchB l b)) w') := fun w' v' h hc => by
    rw [← match_app]
    exact match_c w' (hu.below h) ⟨by rw [atsC_app, List.length_append]; simpa using hc, fun y hy => (List.mem_append.1 hy).elim (fun h' => (hv.body y h').below h) (fun h' => (hx.body y h').below h)⟩
  have q1 := atsC_len a
  have q2 := atsC_len b
  have o1 := one_ats hv
  have o2 := one_ats hx
  have tr := @match_trans l a b
  have e0 : (false != false) = false := rfl
  have e1 : (true != true) = false := rfl
  clear hu hv hx
  haveI := OwnL.nil 80 2
  cases h1 : matchB l a with
  | false =>
    rw [h1] at M1 M5
    rw [Bool.false_and] at M5
    clear h1 tr M2 M3
    refine fn_ret (N := _) Try.func8 rfl Try.ntmps8 Try.results8 (by simp) ?_
    simp only [initS, Nat.reduceAdd, Nat.zero_add]
    repeat' (first | (with_reducible refine then_normal ?_) | ((with_reducible refine then_ret ?_); clear hK K) | ((with_reducible refine then_exit ?_); clear hK K) | (with_reducible refine then_exit ?_) | (with_reducible refine then_ret ?_) | (with_reducible refine inB_normal ?_) | (with_reducible refine inB_ret ?_) | (with_reducible refine inB_here ?_) | (with_reducible refine inB_out (by decide) ?_) | ((with_reducible refine hK _ _ ?_); clear hK K) | ((with_reducible refine sel_call ?_); first | (refine wl_appendB rfl rfl rfl rfl rfl ?_; intro v oa ho) | (refine wl_appendO rfl rfl rfl rfl rfl ?_; intro v oa ho) | refine wl_rd rfl rfl (rd_call rfl rfl rfl (fun w hm => by with_reducible exact M0 w (hm.below rfl))) ?_ | refine wl_rd rfl rfl (rd_call rfl rfl rfl (fun w hm => by with_reducible exact M5 w _ (hm.below rfl) (Vw.out w hm))) ?_ | refine wl_rd rfl rfl (rd_call rfl rfl rfl (fun w hm => by with_reducible exact M1 w (hm.below rfl))) ?_ | refine wl_rd rfl rfl (RdV.rd (rd_lenO rfl rfl rfl rfl rfl)) ?_ | refine wl_rd rfl rfl (RdV.rd (rd_lenS rfl rfl rfl rfl rfl)) ?_) | ((with_reducible refine sel_move ?_); first | refine wl_rd rfl rfl (RdV.rd (rd_move rfl rfl)) ?_) | ((with_reducible refine sel_assign ?_); first | refine wl_rd rfl rfl (RdV.rd (rd_assign rfl rfl)) ?_) | ((with_reducible refine sel_pick ?_); first | refine wl_rd rfl rfl (RdV.rd (rd_pick rfl rfl rfl rfl rfl)) ?_) | ((with_reducible refine sel_b_neq ?_); first | refine wl_rd rfl rfl (RdV.rd (rd_cm rfl rfl rfl rfl)) ?_ | refine wl_rd rfl rfl (RdV.rd (rd_neqB rfl rfl rfl (by with_reducible assumption))) ?_) | ((with_reducible refine sel_unop ?_); first | refine wl_rd rfl rfl (RdV.rd (rd_not rfl rfl)) ?_ | refine wl_rd rfl rfl (RdV.rd (rd_neg rfl rfl)) ?_ | refine wl_rd rfl rfl (RdV.rd (rd_inv rfl rfl)) ?_) | (refine wl_skip rfl rfl ?_) | ((with_reducible refine wc_seq ?_); intro K hK) | ((with_reducible refine wc_region ?_); (try simp only [List.append_eq, List.cons_append, List.nil_append])) | (with_reducible refine wc_block ?_) | (with_reducible refine wc_skip ?_) | (with_reducible refine wc_exit ?_) | (with_reducible refine wc_ret ?_) | (with_reducible refine wc_label ?_) | ((with_reducible refine sel_cond ?_); first | refine wc_true rfl ?_ | refine wc_false rfl ?_ | refine wc_cond rfl (fun hc => ?_) (fun hc => ?_)) | (with_reducible refine wl_nil ?_))
    first | refine end_ret (ResP.tmp rfl ResP.nil) ?_ | refine end_normal (ResP.tmp rfl ResP.nil) ?_
    first | rfl | (show _ = _; rfl) | (simp only [tupV, *]; done)
  | true =>
    rw [h1] at M1 M5
    rw [Bool.true_and] at M5
    cases h2 : matchB l b with
    | false =>
      rw [h2] at M2 M5
      have h3 : matchB a b = false := by
        cases h3 : matchB a b with
        | false => rfl
        | true => rw [tr h1 h3] at h2; cases h2
      rw [h3] at M3
      clear h1 h2 h3 tr
      refine fn_ret (N := _) Try.func8 rfl Try.ntmps8 Try.results8 (by simp) ?_
      simp only [initS, Nat.reduceAdd, Nat.zero_add]
      repeat' (first | (with_reducible refine then_normal ?_) | ((with_reducible refine then_ret ?_); clear hK K) | ((with_reducible refine then_exit ?_); clear hK K) | (with_reducible refine then_exit ?_) | (with_reducible refine then_ret ?_) | (with_reducible refine inB_normal ?_) | (with_reducible refine inB_ret ?_) | (with_reducible refine inB_here ?_) | (with_reducible refine inB_out (by decide) ?_) | ((with_reducible refine hK _ _ ?_); clear hK K) | ((with_reducible refine sel_call ?_); first | (refine wl_appendB rfl rfl rfl rfl rfl ?_; intro v oa ho) | (refine wl_appendO rfl rfl rfl rfl rfl ?_; intro v oa ho) | refine wl_rd rfl rfl (rd_call rfl rfl rfl (fun w hm => by with_reducible exact M0 w (hm.below rfl))) ?_ | refine wl_rd rfl rfl (rd_call rfl rfl rfl (fun w hm => by with_reducible exact M5 w _ (hm.below rfl) (Vw.out w hm))) ?_ | refine wl_rd rfl rfl (rd_call rfl rfl rfl (fun w hm => by with_reducible exact M1 w (hm.below rfl))) ?_ | refine wl_rd rfl rfl (rd_call rfl rfl rfl (fun w hm => by with_reducible exact M2 w (hm.below rfl))) ?_ | refine wl_rd rfl rfl (rd_call rfl rfl rfl (fun w hm => by with_reducible exact M3 w (hm.below rfl))) ?_ | refine wl_rd rfl rfl (RdV.rd (rd_lenO rfl rfl rfl rfl rfl)) ?_ | refine wl_rd rfl rfl (RdV.rd (rd_lenS rfl rfl rfl rfl rfl)) ?_) | ((with_reducible refine sel_move ?_); first | refine wl_rd rfl rfl (RdV.rd (rd_move rfl rfl)) ?_) | ((with_reducible refine sel_assign ?_); first | refine wl_rd rfl rfl (RdV.rd (rd_assign rfl rfl)) ?_) | ((with_reducible refine sel_pick ?_); first | refine wl_rd rfl rfl (RdV.rd (rd_pick rfl rfl rfl rfl rfl)) ?_) | ((with_reducible refine sel_b_neq ?_); first | refine wl_rd rfl rfl (RdV.rd (rd_cm rfl rfl rfl rfl)) ?_ | refine wl_rd rfl rfl (RdV.rd (rd_neqB rfl rfl rfl (by with_reducible assumption))) ?_) | ((with_reducible refine sel_unop ?_); first | refine wl_rd rfl rfl (RdV.rd (rd_not rfl rfl)) ?_ | refine wl_rd rfl rfl (RdV.rd (rd_neg rfl rfl)) ?_ | refine wl_rd rfl rfl (RdV.rd (rd_inv rfl rfl)) ?_) | (refine wl_skip rfl rfl ?_) | ((with_reducible refine wc_seq ?_); intro K hK) | ((with_reducible refine wc_region ?_); (try simp only [List.append_eq, List.cons_append, List.nil_append])) | (with_reducible refine wc_block ?_) | (with_reducible refine wc_skip ?_) | (with_reducible refine wc_exit ?_) | (with_reducible refine wc_ret ?_) | (with_reducible refine wc_label ?_) | ((with_reducible refine sel_cond ?_); first | refine wc_true rfl ?_ | refine wc_false rfl ?_ | refine wc_cond rfl (fun hc => ?_) (fun hc => ?_)) | (with_reducible refine wl_nil ?_))
      first | refine end_ret (ResP.tmp rfl ResP.nil) ?_ | refine end_normal (ResP.tmp rfl ResP.nil) ?_
      first | rfl | (show _ = _; rfl) | (simp only [tupV, *]; done)
    | true =>
      rw [h2] at M2 M5
      cases h3 : matchB a b with
      | false =>
        rw [h3] at M3
        clear h1 h2 h3 tr
        refine fn_ret (N := _) Try.func8 rfl Try.ntmps8 Try.results8 (by simp) ?_
        simp only [initS, Nat.reduceAdd, Nat.zero_add]
        repeat' (first | (with_reducible refine then_normal ?_) | ((with_reducible refine then_ret ?_); clear hK K) | ((with_reducible refine then_exit ?_); clear hK K) | (with_reducible refine then_exit ?_) | (with_reducible refine then_ret ?_) | (with_reducible refine inB_normal ?_) | (with_reducible refine inB_ret ?_) | (with_reducible refine inB_here ?_) | (with_reducible refine inB_out (by decide) ?_) | ((with_reducible refine hK _ _ ?_); clear hK K) | ((with_reducible refine sel_call ?_); first | (refine wl_appendB rfl rfl rfl rfl rfl ?_; intro v oa ho) | (refine wl_appendO rfl rfl rfl rfl rfl ?_; intro v oa ho) | refine wl_rd rfl rfl (rd_call rfl rfl rfl (fun w hm => by with_reducible exact M0 w (hm.below rfl))) ?_ | refine wl_rd rfl rfl (rd_call rfl rfl rfl (fun w hm => by with_reducible exact M5 w _ (hm.below rfl) (Vw.out w hm))) ?_ | refine wl_rd rfl rfl (rd_call rfl rfl rfl (fun w hm => by with_reducible exact M1 w (hm.below rfl))) ?_ | refine wl_rd rfl rfl (rd_call rfl rfl rfl (fun w hm => by with_reducible exact M2 w (hm.below rfl))) ?_ | refine wl_rd rfl rfl (rd_call rfl rfl rfl (fun w hm => by with_reducible exact M3 w (hm.below rfl))) ?_ | refine wl_rd rfl rfl (RdV.rd (rd_lenO rfl rfl rfl rfl rfl)) ?_ | refine wl_rd rfl rfl (RdV.rd (rd_lenS rfl rfl rfl rfl rfl)) ?_) | ((with_reducible refine sel_move ?_); first | refine wl_rd rfl rfl (RdV.rd (rd_move rfl rfl)) ?_) | ((with_reducible refine sel_assign ?_); first | refine wl_rd rfl rfl (RdV.rd (rd_assign rfl rfl)) ?_) | ((with_reducible refine sel_pick ?_); first | refine wl_rd rfl rfl (RdV.rd (rd_pick rfl rfl rfl rfl rfl)) ?_) | ((with_reducible refine sel_b_neq ?_); first | refine wl_rd rfl rfl (RdV.rd (rd_cm rfl rfl rfl rfl)) ?_ | refine wl_rd rfl rfl (RdV.rd (rd_neqB rfl rfl rfl (by with_reducible assumption))) ?_) | ((with_reducible refine sel_unop ?_); first | refine wl_rd rfl rfl (RdV.rd (rd_not rfl rfl)) ?_ | refine wl_rd rfl rfl (RdV.rd (rd_neg rfl rfl)) ?_ | refine wl_rd rfl rfl (RdV.rd (rd_inv rfl rfl)) ?_) | (refine wl_skip rfl rfl ?_) | ((with_reducible refine wc_seq ?_); intro K hK) | ((with_reducible refine wc_region ?_); (try simp only [List.append_eq, List.cons_append, List.nil_append])) | (with_reducible refine wc_block ?_) | (with_reducible refine wc_skip ?_) | (with_reducible refine wc_exit ?_) | (with_reducible refine wc_ret ?_) | (with_reducible refine wc_label ?_) | ((with_reducible refine sel_cond ?_); first | refine wc_true rfl ?_ | refine wc_false rfl ?_ | refine wc_cond rfl (fun hc => ?_) (fun hc => ?_)) | (with_reducible refine wl_nil ?_))
        first | refine end_ret (ResP.tmp rfl ResP.nil) ?_ | refine end_normal (ResP.tmp rfl ResP.nil) ?_
        first | rfl | (show _ = _; rfl) | (simp only [tupV, *]; done)
      | true =>
        rw [h3] at M3
        clear h1 h2 h3 tr
        refine fn_ret (N := _) Try.func8 rfl Try.ntmps8 Try.results8 (by simp) ?_
        simp only [initS, Nat.reduceAdd, Nat.zero_add]
        repeat' (first | (with_reducible refine then_normal ?_) | ((with_reducible refine then_ret ?_); clear hK K) | ((with_reducible refine then_exit ?_); clear hK K) | (with_reducible refine then_exit ?_) | (with_reducible refine then_ret ?_) | (with_reducible refine inB_normal ?_) | (with_reducible refine inB_ret ?_) | (with_reducible refine inB_here ?_) | (with_reducible refine inB_out (by decide) ?_) | ((with_reducible refine hK _ _ ?_); clear hK K) | ((with_reducible refine sel_call ?_); first | (refine wl_appendB rfl rfl rfl rfl rfl ?_; intro v oa ho) | (refine wl_appendO rfl rfl rfl rfl rfl ?_; intro v oa ho) | refine wl_rd rfl rfl (rd_call rfl rfl rfl (fun w hm => by with_reducible exact M0 w (hm.below rfl))) ?_ | refine wl_rd rfl rfl (rd_call rfl rfl rfl (fun w hm => by with_reducible exact M5 w _ (hm.below rfl) (Vw.out w hm))) ?_ | refine wl_rd rfl rfl (rd_call rfl rfl rfl (fun w hm => by with_reducible exact M1 w (hm.below rfl))) ?_ | refine wl_rd rfl rfl (rd_call rfl rfl rfl (fun w hm => by with_reducible exact M2 w (hm.below rfl))) ?_ | refine wl_rd rfl rfl (rd_call rfl rfl rfl (fun w hm => by with_reducible exact M3 w (hm.below rfl))) ?_ | refine wl_rd rfl rfl (RdV.rd (rd_lenO rfl rfl rfl rfl rfl)) ?_ | refine wl_rd rfl rfl (RdV.rd (rd_lenS rfl rfl rfl rfl rfl)) ?_) | ((with_reducible refine sel_move ?_); first | refine wl_rd rfl rfl (RdV.rd (rd_move rfl rfl)) ?_) | ((with_reducible refine sel_assign ?_); first | refine wl_rd rfl rfl (RdV.rd (rd_assign rfl rfl)) ?_) | ((with_reducible refine sel_pick ?_); first | refine wl_rd rfl rfl (RdV.rd (rd_pick rfl rfl rfl rfl rfl)) ?_) | ((with_reducible refine sel_b_neq ?_); first | refine wl_rd rfl rfl (RdV.rd (rd_cm rfl rfl rfl rfl)) ?_ | refine wl_rd rfl rfl (RdV.rd (rd_neqB rfl rfl rfl (by with_reducible assumption))) ?_) | ((with_reducible refine sel_unop ?_); first | refine wl_rd rfl rfl (RdV.rd (rd_not rfl rfl)) ?_ | refine wl_rd rfl rfl (RdV.rd (rd_neg rfl rfl)) ?_ | refine wl_rd rfl rfl (RdV.rd (rd_inv rfl rfl)) ?_) | (refine wl_skip rfl rfl ?_) | ((with_reducible refine wc_seq ?_); intro K hK) | ((with_reducible refine wc_region ?_); (try simp only [List.append_eq, List.cons_append, List.nil_append])) | (with_reducible refine wc_block ?_) | (with_reducible refine wc_skip ?_) | (with_reducible refine wc_exit ?_) | (with_reducible refine wc_ret ?_) | (with_reducible refine wc_label ?_) | ((with_reducible refine sel_cond ?_); first | refine wc_true rfl ?_ | refine wc_false rfl ?_ | refine wc_cond rfl (fun hc => ?_) (fun hc => ?_)) | (with_reducible refine wl_nil ?_))
        first | refine end_ret (ResP.tmp rfl ResP.nil) ?_ | refine end_normal (ResP.tmp rfl ResP.nil) ?_
        first | rfl | (show _ = _; rfl) | (simp only [tupV, *]; done)
end Go.Proofs.Ytpcockfnljdilaa.AttrMatchWalk
