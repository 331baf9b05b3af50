/- When two points are told alike; sealringkeep.sum, times, curves, pointed. -/
import Derived.Test.YtjiiccainfhgkaaCurve2
import Derived.Test.YtjiiccainfhgkaaLawAll
import Derived.Laws.StructEq
namespace Go.Proofs.Ytjiiccainfhgkaa
open Go.RowKit
set_option linter.unusedVariables false
set_option linter.unusedSimpArgs false
set_option maxRecDepth 8000
theorem eql_numD (d a b : Nat) (ha : a < T256) (hb : b < T256) (w : World) : (Op.equalIn (d + 2) 24 (nu a) (nu b)).run Try.prog w = .ok (decide (a = b)) w := by
  rw [← nu_num, ← nu_num]
  have h := eql_ints (P := Try.prog) (t := 24) (e := 22) (k := .u64) (k' := .u64) w d 4 [limb a 0, limb a 1, limb a 2, limb a 3] [limb b 0, limb b 1, limb b 2, limb b 3] (by kernel_rfl) (by kernel_rfl) (by kernel_rfl) (by kernel_rfl) (by kernel_rfl) rfl rfl
  have e : (([limb a 0, limb a 1, limb a 2, limb a 3] : List Int) == [limb b 0, limb b 1, limb b 2, limb b 3]) = decide (a = b) := by
    by_cases hab : a = b
    · subst hab; simp
    · rw [decide_eq_false hab, Bool.eq_false_iff]
      intro hc
      have hc := eq_of_beq hc
      simp only [List.cons.injEq, and_true] at hc
      exact hab (num_inj ha hb hc.1 hc.2.1 hc.2.2.1 hc.2.2.2)
  rw [e] at h
  exact h
theorem part_num {P : Program} {t off : Nat} {L : List Nat} {x : Nat} [KD P t true] [SZ P t 4] (h : numAt L off = some x) (w : World) : (part t (rowC L) off).run P w = .ok (nu x) w := by
  have := part_row (P := P) (t := t) (off := off) (k := 4) (cs := rowC L) (numAt_part L off x h) w
  simpa using this
theorem pt_fields : ∃ f0 f1 : Field, (Try.prog.fieldsOf 37).toList = [f0, f1] ∧ decide (f0.name ≠ "_") = true ∧ decide (f1.name ≠ "_") = true ∧ f0.type = 24 ∧ f1.type = 24 ∧ f0.offset = 0 ∧ f1.offset = 4 :=
  ⟨(Try.prog.fieldsOf 37)[0]!, (Try.prog.fieldsOf 37)[1]!, by kernel_rfl, by decide +kernel, by decide +kernel, by kernel_rfl, by kernel_rfl, by kernel_rfl, by kernel_rfl⟩
theorem eq_pt (p q : Pt) (hp : p.lt) (hq : q.lt) (w : World) : (Op.equalIn 10000 37 (pv p) (pv q)).run Try.prog w = .ok (decide (p = q)) w := by
  obtain ⟨f0, f1, hf, n0, n1, t0, t1, o0, o1⟩ := pt_fields
  rw [show (10000 : Nat) = 9999 + 1 from rfl, run_equalIn_struct w 9999 _ _ _ (by kernel_rfl) (by kernel_rfl), hf]
  have n0' := of_decide_eq_true n0
  have n1' := of_decide_eq_true n1
  have a0 := part_num (P := Try.prog) (t := 24) (L := [p.x, p.y]) (off := 0) (x := p.x) rfl
  have a1 := part_num (P := Try.prog) (t := 24) (L := [p.x, p.y]) (off := 4) (x := p.y) rfl
  have b0 := part_num (P := Try.prog) (t := 24) (L := [q.x, q.y]) (off := 0) (x := q.x) rfl
  have b1 := part_num (P := Try.prog) (t := 24) (L := [q.x, q.y]) (off := 4) (x := q.y) rfl
  have e0 := eql_numD 9997 p.x q.x hp.1 hq.1 w
  have e1 := eql_numD 9997 p.y q.y hp.2 hq.2 w
  by_cases h0 : p.x = q.x
  · rw [decide_eq_true h0] at e0
    by_cases h1 : p.y = q.y
    · rw [decide_eq_true h1] at e1
      rw [decide_eq_true (show p = q by cases p; cases q; cases h0; cases h1; rfl)]
      clear h0 h1
      simp only [Op.eqFields, n0', n1', t0, t1, o0, o1, not_false_eq_true, ne_eq, if_true, if_false, Sem.run_bind, a0, a1, b0, b1, Result.andThen_ok, e0, e1, Bool.not_true, Bool.not_false, Bool.false_eq_true, Sem.run_pure]
    · rw [decide_eq_false h1] at e1
      rw [decide_eq_false (fun h : p = q => h1 (by rw [h]))]
      clear h0 h1
      simp only [Op.eqFields, n0', n1', t0, t1, o0, o1, not_false_eq_true, ne_eq, if_true, if_false, Sem.run_bind, a0, a1, b0, b1, Result.andThen_ok, e0, e1, Bool.not_true, Bool.not_false, Bool.false_eq_true, Sem.run_pure]
  · rw [decide_eq_false h0] at e0
    rw [decide_eq_false (fun h : p = q => h0 (by rw [h]))]
    clear h0
    simp only [Op.eqFields, n0', n1', t0, t1, o0, o1, not_false_eq_true, ne_eq, if_true, if_false, Sem.run_bind, a0, a1, b0, b1, Result.andThen_ok, e0, e1, Bool.not_true, Bool.not_false, Bool.false_eq_true, Sem.run_pure]
theorem eq_pt_yes {p q : Pt} (hp : p.lt) (h : p = q) (w : World) : (Op.equalIn 10000 37 (pv p) (pv q)).run Try.prog w = .ok true w := by
  rw [eq_pt p q hp (h ▸ hp) w, decide_eq_true h]
theorem eq_pt_no {p q : Pt} (hp : p.lt) (hq : q.lt) (h : p ≠ q) (w : World) : (Op.equalIn 10000 37 (pv p) (pv q)).run Try.prog w = .ok false w := by
  rw [eq_pt p q hp hq w, decide_eq_false h]
set_option maxHeartbeats 1000000 in
theorem sum_k {p q : Pt} (hp : p.on) (hq : q.on) (w : World) : Calls Try.prog 35 [pv p, pv q].toArray w (Ret (pv (p.add q)) w) := by
  have AC := add_yes hp.red.lt hp hq.red.lt hq
  clear hp hq
  generalize p.add q = r at *
  refine fn_ret (N := _) Try.func35 rfl Try.ntmps35 Try.results35 (by simp) ?_
  simp only [initS, Nat.reduceAdd, Nat.zero_add]
  repeat' (first | (with_reducible refine then_normal ?_) | ((with_reducible refine then_ret ?_); clear hK K) | ((with_reducible refine then_exit ?_); clear hK K) | (with_reducible refine then_exit ?_) | (with_reducible refine then_ret ?_) | (with_reducible refine inB_normal ?_) | (with_reducible refine inB_ret ?_) | (with_reducible refine inB_here ?_) | (with_reducible refine inB_out (by decide) ?_) | ((with_reducible refine hK _ _ ?_); clear hK K) | ((with_reducible refine sel_load ?_); first | refine wl_rd rfl rfl (RdV.rd (rd_load rfl rfl ld_num)) ?_ | refine wl_rd rfl rfl (RdV.rd (rd_load rfl rfl (ld_whole))) ?_ | refine wl_rd rfl rfl (RdV.rd (rd_load rfl rfl (ld_cell))) ?_ | refine wl_rd rfl rfl (RdV.rd (rd_load rfl rfl (ld_row))) ?_) | ((with_reducible refine sel_store ?_); first | refine wl_store rfl rfl (sv_num0 rfl rfl rfl) ?_ | refine wl_store rfl rfl (sv_num4 rfl rfl rfl) ?_ | refine wl_store rfl rfl (sv_whole rfl rfl rfl) ?_ | refine wl_store rfl rfl (sv_cell rfl rfl rfl rfl) ?_ | refine wl_store rfl rfl (sv_row rfl rfl rfl rfl) ?_) | ((with_reducible refine sel_move ?_); first | refine wl_rd rfl rfl (RdV.rd (rd_move rfl rfl)) ?_) | ((with_reducible refine sel_assign ?_); first | refine wl_rd rfl rfl (RdV.rd (rd_assign rfl rfl)) ?_) | ((with_reducible refine sel_extract ?_); first | refine wl_rd rfl rfl (RdV.rd (rd_extract rfl rfl)) ?_) | ((with_reducible refine sel_alloc ?_); first | (refine wl_new rfl rfl (mk_allocC rfl) ?_; intro n hn) | (refine wl_new rfl rfl (mk_alloc rfl) ?_; intro n hn)) | ((with_reducible refine sel_call ?_); first | refine wl_rd rfl rfl (rd_call rfl rfl rfl (fun w _ => by with_reducible exact AC w)) ?_ | refine wl_rd rfl rfl (RdV.rd (rd_lenS rfl rfl rfl rfl rfl)) ?_) | ((with_reducible refine sel_box ?_); first | (refine wl_new rfl rfl (mk_box rfl rfl) ?_; intro n hn)) | (refine wl_skip rfl rfl ?_) | ((with_reducible refine wc_seq ?_); intro K hK) | ((with_reducible refine wc_region ?_); (try simp only [List.append_eq, List.cons_append, List.nil_append])) | (with_reducible refine wc_block ?_) | (with_reducible refine wc_skip ?_) | (with_reducible refine wc_exit ?_) | (with_reducible refine wc_ret ?_) | (with_reducible refine wc_label ?_) | ((with_reducible refine sel_cond ?_); first | refine wc_true rfl ?_ | refine wc_false rfl ?_ | refine wc_cond rfl (fun hc => ?_) (fun hc => ?_)) | (with_reducible refine wl_nil ?_))
  first | refine end_ret (ResP.cell rfl ld_whole ResP.nil) ?_ | refine end_normal (ResP.cell rfl ld_whole ResP.nil) ?_
  first | rfl | (show _ = _; rfl)
set_option maxHeartbeats 1000000 in
theorem times_k {p : Pt} (m : Nat) (hm : m < T256) (hp : p.on) (w : World) : Calls Try.prog 44 [nu m, pv p].toArray w (Ret (pv (p.times m)) w) := by
  have AC := times_yes m hm hp.red.lt hp
  clear hp hm
  generalize p.times m = r at *
  refine fn_ret (N := _) Try.func44 rfl Try.ntmps44 Try.results44 (by simp) ?_
  simp only [initS, Nat.reduceAdd, Nat.zero_add]
  repeat' (first | (with_reducible refine then_normal ?_) | ((with_reducible refine then_ret ?_); clear hK K) | ((with_reducible refine then_exit ?_); clear hK K) | (with_reducible refine then_exit ?_) | (with_reducible refine then_ret ?_) | (with_reducible refine inB_normal ?_) | (with_reducible refine inB_ret ?_) | (with_reducible refine inB_here ?_) | (with_reducible refine inB_out (by decide) ?_) | ((with_reducible refine hK _ _ ?_); clear hK K) | ((with_reducible refine sel_load ?_); first | refine wl_rd rfl rfl (RdV.rd (rd_load rfl rfl ld_num)) ?_ | refine wl_rd rfl rfl (RdV.rd (rd_load rfl rfl (ld_whole))) ?_ | refine wl_rd rfl rfl (RdV.rd (rd_load rfl rfl (ld_cell))) ?_ | refine wl_rd rfl rfl (RdV.rd (rd_load rfl rfl (ld_row))) ?_) | ((with_reducible refine sel_store ?_); first | refine wl_store rfl rfl (sv_num0 rfl rfl rfl) ?_ | refine wl_store rfl rfl (sv_num4 rfl rfl rfl) ?_ | refine wl_store rfl rfl (sv_whole rfl rfl rfl) ?_ | refine wl_store rfl rfl (sv_cell rfl rfl rfl rfl) ?_ | refine wl_store rfl rfl (sv_row rfl rfl rfl rfl) ?_) | ((with_reducible refine sel_move ?_); first | refine wl_rd rfl rfl (RdV.rd (rd_move rfl rfl)) ?_) | ((with_reducible refine sel_assign ?_); first | refine wl_rd rfl rfl (RdV.rd (rd_assign rfl rfl)) ?_) | ((with_reducible refine sel_extract ?_); first | refine wl_rd rfl rfl (RdV.rd (rd_extract rfl rfl)) ?_) | ((with_reducible refine sel_alloc ?_); first | (refine wl_new rfl rfl (mk_allocC rfl) ?_; intro n hn) | (refine wl_new rfl rfl (mk_alloc rfl) ?_; intro n hn)) | ((with_reducible refine sel_call ?_); first | refine wl_rd rfl rfl (rd_call rfl rfl rfl (fun w _ => by with_reducible exact AC w)) ?_ | refine wl_rd rfl rfl (RdV.rd (rd_lenS rfl rfl rfl rfl rfl)) ?_) | ((with_reducible refine sel_box ?_); first | (refine wl_new rfl rfl (mk_box rfl rfl) ?_; intro n hn)) | (refine wl_skip rfl rfl ?_) | ((with_reducible refine wc_seq ?_); intro K hK) | ((with_reducible refine wc_region ?_); (try simp only [List.append_eq, List.cons_append, List.nil_append])) | (with_reducible refine wc_block ?_) | (with_reducible refine wc_skip ?_) | (with_reducible refine wc_exit ?_) | (with_reducible refine wc_ret ?_) | (with_reducible refine wc_label ?_) | ((with_reducible refine sel_cond ?_); first | refine wc_true rfl ?_ | refine wc_false rfl ?_ | refine wc_cond rfl (fun hc => ?_) (fun hc => ?_)) | (with_reducible refine wl_nil ?_))
  first | refine end_ret (ResP.cell rfl ld_whole ResP.nil) ?_ | refine end_normal (ResP.cell rfl ld_whole ResP.nil) ?_
  first | rfl | (show _ = _; rfl)
theorem curves_k (w : World) : Calls Try.prog 47 [].toArray w (Ret (.bool true) w) := by
  have BC := base_c
  have OP := on_yes base_red.lt base_on
  refine fn_ret (N := _) Try.func47 rfl Try.ntmps47 Try.results47 (by simp) ?_
  simp only [initS, Nat.reduceAdd, Nat.zero_add]
  repeat' (first | (with_reducible refine then_normal ?_) | ((with_reducible refine then_ret ?_); clear hK K) | ((with_reducible refine then_exit ?_); clear hK K) | (with_reducible refine then_exit ?_) | (with_reducible refine then_ret ?_) | (with_reducible refine inB_normal ?_) | (with_reducible refine inB_ret ?_) | (with_reducible refine inB_here ?_) | (with_reducible refine inB_out (by decide) ?_) | ((with_reducible refine hK _ _ ?_); clear hK K) | ((with_reducible refine sel_assign ?_); first | refine wl_rd rfl rfl (RdV.rd (rd_assign rfl rfl)) ?_) | ((with_reducible refine sel_call ?_); first | refine wl_rd rfl rfl (rd_call rfl rfl rfl (fun w _ => by with_reducible exact BC w)) ?_ | refine wl_rd rfl rfl (rd_call rfl rfl rfl (fun w _ => by with_reducible exact OP w)) ?_ | refine wl_rd rfl rfl (RdV.rd (rd_lenS rfl rfl rfl rfl rfl)) ?_) | (refine wl_skip rfl rfl ?_) | ((with_reducible refine wc_seq ?_); intro K hK) | ((with_reducible refine wc_region ?_); (try simp only [List.append_eq, List.cons_append, List.nil_append])) | (with_reducible refine wc_block ?_) | (with_reducible refine wc_skip ?_) | (with_reducible refine wc_exit ?_) | (with_reducible refine wc_ret ?_) | (with_reducible refine wc_label ?_) | ((with_reducible refine sel_cond ?_); first | refine wc_true rfl ?_ | refine wc_false rfl ?_ | refine wc_cond rfl (fun hc => ?_) (fun hc => ?_)) | (with_reducible refine wl_nil ?_))
  first | refine end_ret (ResP.tmp rfl ResP.nil) ?_ | refine end_normal (ResP.tmp rfl ResP.nil) ?_
  first | rfl | (show _ = _; rfl)
end Go.Proofs.Ytjiiccainfhgkaa
