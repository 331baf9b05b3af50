/- rule.turns, walked, kind by kind. (Printed by wip/genrule2.py.) -/
import Derived.Test.YtlpalhagndmpjaaJnAC
namespace Go.Proofs.Ytlpalhagndmpjaa
open Go.RowKit
set_option linter.unusedVariables false
set_option linter.unusedSimpArgs false
set_option maxRecDepth 100000
set_option maxHeartbeats 4000000 in
theorem turns_1 (w : World) {v bv : Value} {l : List Att} {p : List Nat} (c : Bool) (h : Ats w v l) (hb : Cb w bv p.length p) : Calls Try.prog 55 [v, .agg #[.int .i64 (1), bv], .bool c].toArray w (Ret (.bool (false)) w) := by
  haveI := h.old
  have i1 := hb.old
  obtain ⟨pv, cv, rfl, hcv, _⟩ := hb.cs.ln.out
  have d1 : (p.drop 0).take (p.length - 0) = p := by rw [List.drop_zero, Nat.sub_zero, List.take_length]
  have d0 : p.length - 0 = p.length := rfl
  have q1 : ((1 : Int) == 1) = true := rfl
  clear h hb
  refine fn_ret (N := _) Try.func55 rfl Try.ntmps55 Try.results55 (by simp) ?_
  simp only [initS, Nat.reduceAdd, Nat.zero_add]
  repeat' (first | (refine wlS ?_) | (refine wlB ?_) | (refine wlE ?_) | (refine efSvvp ?_; intro v hv hp) | (refine efSvao ?_; intro v oa ho) | (refine efBnn ?_; intro n hn) | (refine wl_skip rfl rfl ?_) | ((with_reducible refine wc_seq ?_); intro K hK) | (refine auC ?_) | (refine wc_cond rfl (fun hc => ?_) (fun hc => ?_)) | (refine wc_draw (by kernel_rfl) (by kernel_rfl) (by decide +kernel) ?_; intro w0 hw0 hm0; (try simp only [List.append_eq, List.cons_append, List.nil_append])) | (refine auP ?_) | ((refine auR ?_); clear hK K) | (refine auR ?_) | ((with_reducible refine hK _ _ ?_); clear hK K) | fail)
  first | refine end_ret (ResP.tmp rfl ResP.nil) ?_ | refine end_normal (ResP.tmp rfl ResP.nil) ?_
  first | rfl | (show _ = _; rfl) | (simp only [tupV, *]; done)
set_option maxHeartbeats 4000000 in
theorem turns_4 (w : World) {v bv : Value} {l : List Att} {p : List Nat} (c : Bool) (h : Ats w v l) (hb : Cb w bv p.length p) : Calls Try.prog 55 [v, .agg #[.int .i64 (4), bv], .bool c].toArray w (Ret (.bool (false)) w) := by
  haveI := h.old
  have i1 := hb.old
  obtain ⟨pv, cv, rfl, hcv, _⟩ := hb.cs.ln.out
  have d1 : (p.drop 0).take (p.length - 0) = p := by rw [List.drop_zero, Nat.sub_zero, List.take_length]
  have d0 : p.length - 0 = p.length := rfl
  have q1 : ((4 : Int) == 1) = false := rfl
  have q4 : ((4 : Int) == 4) = true := rfl
  clear h hb
  refine fn_ret (N := _) Try.func55 rfl Try.ntmps55 Try.results55 (by simp) ?_
  simp only [initS, Nat.reduceAdd, Nat.zero_add]
  repeat' (first | (refine wlS ?_) | (refine wlB ?_) | (refine wlE ?_) | (refine efSvvp ?_; intro v hv hp) | (refine efSvao ?_; intro v oa ho) | (refine efBnn ?_; intro n hn) | (refine wl_skip rfl rfl ?_) | ((with_reducible refine wc_seq ?_); intro K hK) | (refine auC ?_) | (refine wc_cond rfl (fun hc => ?_) (fun hc => ?_)) | (refine wc_draw (by kernel_rfl) (by kernel_rfl) (by decide +kernel) ?_; intro w0 hw0 hm0; (try simp only [List.append_eq, List.cons_append, List.nil_append])) | (refine auP ?_) | ((refine auR ?_); clear hK K) | (refine auR ?_) | ((with_reducible refine hK _ _ ?_); clear hK K) | fail)
  first | refine end_ret (ResP.tmp rfl ResP.nil) ?_ | refine end_normal (ResP.tmp rfl ResP.nil) ?_
  first | rfl | (show _ = _; rfl) | (simp only [tupV, *]; done)
set_option maxHeartbeats 4000000 in
theorem turns_10 (w : World) {v bv : Value} {l : List Att} {p : List Nat} (c : Bool) (h : Ats w v l) (hb : Cb w bv p.length p) : Calls Try.prog 55 [v, .agg #[.int .i64 (10), bv], .bool c].toArray w (Ret (.bool (false)) w) := by
  haveI := h.old
  have i1 := hb.old
  obtain ⟨pv, cv, rfl, hcv, _⟩ := hb.cs.ln.out
  have d1 : (p.drop 0).take (p.length - 0) = p := by rw [List.drop_zero, Nat.sub_zero, List.take_length]
  have d0 : p.length - 0 = p.length := rfl
  have q1 : ((10 : Int) == 1) = false := rfl
  have q4 : ((10 : Int) == 4) = false := rfl
  have q10 : ((10 : Int) == 10) = true := rfl
  clear h hb
  refine fn_ret (N := _) Try.func55 rfl Try.ntmps55 Try.results55 (by simp) ?_
  simp only [initS, Nat.reduceAdd, Nat.zero_add]
  repeat' (first | (refine wlS ?_) | (refine wlB ?_) | (refine wlE ?_) | (refine efSvvp ?_; intro v hv hp) | (refine efSvao ?_; intro v oa ho) | (refine efBnn ?_; intro n hn) | (refine wl_skip rfl rfl ?_) | ((with_reducible refine wc_seq ?_); intro K hK) | (refine auC ?_) | (refine wc_cond rfl (fun hc => ?_) (fun hc => ?_)) | (refine wc_draw (by kernel_rfl) (by kernel_rfl) (by decide +kernel) ?_; intro w0 hw0 hm0; (try simp only [List.append_eq, List.cons_append, List.nil_append])) | (refine auP ?_) | ((refine auR ?_); clear hK K) | (refine auR ?_) | ((with_reducible refine hK _ _ ?_); clear hK K) | fail)
  first | refine end_ret (ResP.tmp rfl ResP.nil) ?_ | refine end_normal (ResP.tmp rfl ResP.nil) ?_
  first | rfl | (show _ = _; rfl) | (simp only [tupV, *]; done)
set_option maxHeartbeats 4000000 in
theorem turns_11 (w : World) {v bv : Value} {l : List Att} {p : List Nat} (c : Bool) (h : Ats w v l) (hb : Cb w bv p.length p) : Calls Try.prog 55 [v, .agg #[.int .i64 (11), bv], .bool c].toArray w (Ret (.bool (false)) w) := by
  haveI := h.old
  have i1 := hb.old
  obtain ⟨pv, cv, rfl, hcv, _⟩ := hb.cs.ln.out
  have d1 : (p.drop 0).take (p.length - 0) = p := by rw [List.drop_zero, Nat.sub_zero, List.take_length]
  have d0 : p.length - 0 = p.length := rfl
  have q1 : ((11 : Int) == 1) = false := rfl
  have q4 : ((11 : Int) == 4) = false := rfl
  have q10 : ((11 : Int) == 10) = false := rfl
  have q11 : ((11 : Int) == 11) = true := rfl
  clear h hb
  refine fn_ret (N := _) Try.func55 rfl Try.ntmps55 Try.results55 (by simp) ?_
  simp only [initS, Nat.reduceAdd, Nat.zero_add]
  repeat' (first | (refine wlS ?_) | (refine wlB ?_) | (refine wlE ?_) | (refine efSvvp ?_; intro v hv hp) | (refine efSvao ?_; intro v oa ho) | (refine efBnn ?_; intro n hn) | (refine wl_skip rfl rfl ?_) | ((with_reducible refine wc_seq ?_); intro K hK) | (refine auC ?_) | (refine wc_cond rfl (fun hc => ?_) (fun hc => ?_)) | (refine wc_draw (by kernel_rfl) (by kernel_rfl) (by decide +kernel) ?_; intro w0 hw0 hm0; (try simp only [List.append_eq, List.cons_append, List.nil_append])) | (refine auP ?_) | ((refine auR ?_); clear hK K) | (refine auR ?_) | ((with_reducible refine hK _ _ ?_); clear hK K) | fail)
  first | refine end_ret (ResP.tmp rfl ResP.nil) ?_ | refine end_normal (ResP.tmp rfl ResP.nil) ?_
  first | rfl | (show _ = _; rfl) | (simp only [tupV, *]; done)
set_option maxHeartbeats 4000000 in
theorem turns_12 (w : World) {v bv : Value} {l : List Att} {p : List Nat} (c : Bool) (h : Ats w v l) (hb : Cb w bv p.length p) : Calls Try.prog 55 [v, .agg #[.int .i64 (12), bv], .bool c].toArray w (Ret (.bool (false)) w) := by
  haveI := h.old
  have i1 := hb.old
  obtain ⟨pv, cv, rfl, hcv, _⟩ := hb.cs.ln.out
  have d1 : (p.drop 0).take (p.length - 0) = p := by rw [List.drop_zero, Nat.sub_zero, List.take_length]
  have d0 : p.length - 0 = p.length := rfl
  have q1 : ((12 : Int) == 1) = false := rfl
  have q4 : ((12 : Int) == 4) = false := rfl
  have q10 : ((12 : Int) == 10) = false := rfl
  have q11 : ((12 : Int) == 11) = false := rfl
  have q12 : ((12 : Int) == 12) = true := rfl
  clear h hb
  refine fn_ret (N := _) Try.func55 rfl Try.ntmps55 Try.results55 (by simp) ?_
  simp only [initS, Nat.reduceAdd, Nat.zero_add]
  repeat' (first | (refine wlS ?_) | (refine wlB ?_) | (refine wlE ?_) | (refine efSvvp ?_; intro v hv hp) | (refine efSvao ?_; intro v oa ho) | (refine efBnn ?_; intro n hn) | (refine wl_skip rfl rfl ?_) | ((with_reducible refine wc_seq ?_); intro K hK) | (refine auC ?_) | (refine wc_cond rfl (fun hc => ?_) (fun hc => ?_)) | (refine wc_draw (by kernel_rfl) (by kernel_rfl) (by decide +kernel) ?_; intro w0 hw0 hm0; (try simp only [List.append_eq, List.cons_append, List.nil_append])) | (refine auP ?_) | ((refine auR ?_); clear hK K) | (refine auR ?_) | ((with_reducible refine hK _ _ ?_); clear hK K) | fail)
  first | refine end_ret (ResP.tmp rfl ResP.nil) ?_ | refine end_normal (ResP.tmp rfl ResP.nil) ?_
  first | rfl | (show _ = _; rfl) | (simp only [tupV, *]; done)
set_option maxHeartbeats 4000000 in
theorem turns_5 (w : World) {v bv : Value} {l : List Att} {p : List Nat} (c : Bool) (h : Ats w v l) (hb : Cb w bv p.length p) : Calls Try.prog 55 [v, .agg #[.int .i64 (5), bv], .bool c].toArray w (Ret (.bool (c)) w) := by
  haveI := h.old
  have i1 := hb.old
  obtain ⟨pv, cv, rfl, hcv, _⟩ := hb.cs.ln.out
  have d1 : (p.drop 0).take (p.length - 0) = p := by rw [List.drop_zero, Nat.sub_zero, List.take_length]
  have d0 : p.length - 0 = p.length := rfl
  have q1 : ((5 : Int) == 1) = false := rfl
  have q4 : ((5 : Int) == 4) = false := rfl
  have q10 : ((5 : Int) == 10) = false := rfl
  have q11 : ((5 : Int) == 11) = false := rfl
  have q12 : ((5 : Int) == 12) = false := rfl
  have q5 : ((5 : Int) == 5) = true := rfl
  clear h hb
  refine fn_ret (N := _) Try.func55 rfl Try.ntmps55 Try.results55 (by simp) ?_
  simp only [initS, Nat.reduceAdd, Nat.zero_add]
  repeat' (first | (refine wlS ?_) | (refine wlB ?_) | (refine wlE ?_) | (refine efSvvp ?_; intro v hv hp) | (refine efSvao ?_; intro v oa ho) | (refine efBnn ?_; intro n hn) | (refine wl_skip rfl rfl ?_) | ((with_reducible refine wc_seq ?_); intro K hK) | (refine auC ?_) | (refine wc_cond rfl (fun hc => ?_) (fun hc => ?_)) | (refine wc_draw (by kernel_rfl) (by kernel_rfl) (by decide +kernel) ?_; intro w0 hw0 hm0; (try simp only [List.append_eq, List.cons_append, List.nil_append])) | (refine auP ?_) | ((refine auR ?_); clear hK K) | (refine auR ?_) | ((with_reducible refine hK _ _ ?_); clear hK K) | fail)
  first | refine end_ret (ResP.tmp rfl ResP.nil) ?_ | refine end_normal (ResP.tmp rfl ResP.nil) ?_
  first | rfl | (show _ = _; rfl) | (simp only [tupV, *]; done)
set_option maxHeartbeats 4000000 in
theorem turns_6 (w : World) {v bv : Value} {l : List Att} {p : List Nat} (c : Bool) {x : Bool} (hx : isA (abs l) 6 = x) (hp : p = [0] ∨ p = [1]) (h : Ats w v l) (hb : Cb w bv p.length p) : Calls Try.prog 55 [v, .agg #[.int .i64 (6), bv], .bool c].toArray w (Ret (.bool (c && (p.getD 0 0 == 1 || !x))) w) := by
  haveI := h.old
  have i1 := hb.old
  obtain ⟨pv, cv, rfl, hcv, _⟩ := hb.cs.ln.out
  have d1 : (p.drop 0).take (p.length - 0) = p := by rw [List.drop_zero, Nat.sub_zero, List.take_length]
  have d0 : p.length - 0 = p.length := rfl
  have q1 : ((6 : Int) == 1) = false := rfl
  have q4 : ((6 : Int) == 4) = false := rfl
  have q10 : ((6 : Int) == 10) = false := rfl
  have q11 : ((6 : Int) == 11) = false := rfl
  have q12 : ((6 : Int) == 12) = false := rfl
  have q5 : ((6 : Int) == 5) = false := rfl
  have q6 : ((6 : Int) == 6) = true := rfl
  have IS := fun w' (h : Ats w' v l) => is_c w' h hx
  clear h hb hx
  rcases hp with rfl | rfl
  · have g0 : (bl [0])[0]? = some (.int .u8 ((0 : Nat) : Int)) := rfl
    have t0 : ((((0 : Nat) : Int)) == 1) = false := rfl
    have j0 : (0 : Int) < (([0].length : Nat) : Int) := by simp
    cases c <;> cases x
    all_goals (
      refine fn_ret (N := _) Try.func55 rfl Try.ntmps55 Try.results55 (by simp) ?_
      simp only [initS, Nat.reduceAdd, Nat.zero_add])
    all_goals (
      repeat' (first | (refine wlS ?_) | (refine wlB ?_) | ((with_reducible refine sel_call ?_); refine wl_rd rfl rfl (rd_call rfl rfl rfl (fun w hm => by with_reducible exact IS w (VwT.out w hm))) ?_) | (refine wlE ?_) | (refine efSvvp ?_; intro v hv hp) | (refine efSvao ?_; intro v oa ho) | (refine efBnn ?_; intro n hn) | (refine wl_skip rfl rfl ?_) | ((with_reducible refine wc_seq ?_); intro K hK) | (refine auC ?_) | (refine wc_cond rfl (fun hc => ?_) (fun hc => ?_)) | (refine wc_draw (by kernel_rfl) (by kernel_rfl) (by decide +kernel) ?_; intro w0 hw0 hm0; (try simp only [List.append_eq, List.cons_append, List.nil_append])) | (refine auP ?_) | ((refine auR ?_); clear hK K) | (refine auR ?_) | ((with_reducible refine hK _ _ ?_); clear hK K) | fail))
    all_goals (
      first | refine end_ret (ResP.tmp rfl ResP.nil) ?_ | refine end_normal (ResP.tmp rfl ResP.nil) ?_
      first | rfl | (show _ = _; rfl) | (simp only [tupV, *]; done))
  · have g0 : (bl [1])[0]? = some (.int .u8 ((1 : Nat) : Int)) := rfl
    have t0 : ((((1 : Nat) : Int)) == 1) = true := rfl
    have j0 : (0 : Int) < (([1].length : Nat) : Int) := by simp
    cases c <;> cases x
    all_goals (
      refine fn_ret (N := _) Try.func55 rfl Try.ntmps55 Try.results55 (by simp) ?_
      simp only [initS, Nat.reduceAdd, Nat.zero_add])
    all_goals (
      repeat' (first | (refine wlS ?_) | (refine wlB ?_) | ((with_reducible refine sel_call ?_); refine wl_rd rfl rfl (rd_call rfl rfl rfl (fun w hm => by with_reducible exact IS w (VwT.out w hm))) ?_) | (refine wlE ?_) | (refine efSvvp ?_; intro v hv hp) | (refine efSvao ?_; intro v oa ho) | (refine efBnn ?_; intro n hn) | (refine wl_skip rfl rfl ?_) | ((with_reducible refine wc_seq ?_); intro K hK) | (refine auC ?_) | (refine wc_cond rfl (fun hc => ?_) (fun hc => ?_)) | (refine wc_draw (by kernel_rfl) (by kernel_rfl) (by decide +kernel) ?_; intro w0 hw0 hm0; (try simp only [List.append_eq, List.cons_append, List.nil_append])) | (refine auP ?_) | ((refine auR ?_); clear hK K) | (refine auR ?_) | ((with_reducible refine hK _ _ ?_); clear hK K) | fail))
    all_goals (
      first | refine end_ret (ResP.tmp rfl ResP.nil) ?_ | refine end_normal (ResP.tmp rfl ResP.nil) ?_
      first | rfl | (show _ = _; rfl) | (simp only [tupV, *]; done))
set_option maxHeartbeats 4000000 in
theorem turns_8 (w : World) {v bv : Value} {l : List Att} {p : List Nat} (c : Bool) {x : Bool} (hx : isA (abs l) 8 = x) (hp : p = [0] ∨ p = [1]) (h : Ats w v l) (hb : Cb w bv p.length p) : Calls Try.prog 55 [v, .agg #[.int .i64 (8), bv], .bool c].toArray w (Ret (.bool (p.getD 0 0 == 1 || !x)) w) := by
  haveI := h.old
  have i1 := hb.old
  obtain ⟨pv, cv, rfl, hcv, _⟩ := hb.cs.ln.out
  have d1 : (p.drop 0).take (p.length - 0) = p := by rw [List.drop_zero, Nat.sub_zero, List.take_length]
  have d0 : p.length - 0 = p.length := rfl
  have q1 : ((8 : Int) == 1) = false := rfl
  have q4 : ((8 : Int) == 4) = false := rfl
  have q10 : ((8 : Int) == 10) = false := rfl
  have q11 : ((8 : Int) == 11) = false := rfl
  have q12 : ((8 : Int) == 12) = false := rfl
  have q5 : ((8 : Int) == 5) = false := rfl
  have q6 : ((8 : Int) == 6) = false := rfl
  have q8 : ((8 : Int) == 8) = true := rfl
  have IS := fun w' (h : Ats w' v l) => is_c w' h hx
  clear h hb hx
  rcases hp with rfl | rfl
  · have g0 : (bl [0])[0]? = some (.int .u8 ((0 : Nat) : Int)) := rfl
    have t0 : ((((0 : Nat) : Int)) == 1) = false := rfl
    have j0 : (0 : Int) < (([0].length : Nat) : Int) := by simp
    cases x
    all_goals (
      refine fn_ret (N := _) Try.func55 rfl Try.ntmps55 Try.results55 (by simp) ?_
      simp only [initS, Nat.reduceAdd, Nat.zero_add])
    all_goals (
      repeat' (first | (refine wlS ?_) | (refine wlB ?_) | ((with_reducible refine sel_call ?_); refine wl_rd rfl rfl (rd_call rfl rfl rfl (fun w hm => by with_reducible exact IS w (VwT.out w hm))) ?_) | (refine wlE ?_) | (refine efSvvp ?_; intro v hv hp) | (refine efSvao ?_; intro v oa ho) | (refine efBnn ?_; intro n hn) | (refine wl_skip rfl rfl ?_) | ((with_reducible refine wc_seq ?_); intro K hK) | (refine auC ?_) | (refine wc_cond rfl (fun hc => ?_) (fun hc => ?_)) | (refine wc_draw (by kernel_rfl) (by kernel_rfl) (by decide +kernel) ?_; intro w0 hw0 hm0; (try simp only [List.append_eq, List.cons_append, List.nil_append])) | (refine auP ?_) | ((refine auR ?_); clear hK K) | (refine auR ?_) | ((with_reducible refine hK _ _ ?_); clear hK K) | fail))
    all_goals (
      first | refine end_ret (ResP.tmp rfl ResP.nil) ?_ | refine end_normal (ResP.tmp rfl ResP.nil) ?_
      first | rfl | (show _ = _; rfl) | (simp only [tupV, *]; done))
  · have g0 : (bl [1])[0]? = some (.int .u8 ((1 : Nat) : Int)) := rfl
    have t0 : ((((1 : Nat) : Int)) == 1) = true := rfl
    have j0 : (0 : Int) < (([1].length : Nat) : Int) := by simp
    cases x
    all_goals (
      refine fn_ret (N := _) Try.func55 rfl Try.ntmps55 Try.results55 (by simp) ?_
      simp only [initS, Nat.reduceAdd, Nat.zero_add])
    all_goals (
      repeat' (first | (refine wlS ?_) | (refine wlB ?_) | ((with_reducible refine sel_call ?_); refine wl_rd rfl rfl (rd_call rfl rfl rfl (fun w hm => by with_reducible exact IS w (VwT.out w hm))) ?_) | (refine wlE ?_) | (refine efSvvp ?_; intro v hv hp) | (refine efSvao ?_; intro v oa ho) | (refine efBnn ?_; intro n hn) | (refine wl_skip rfl rfl ?_) | ((with_reducible refine wc_seq ?_); intro K hK) | (refine auC ?_) | (refine wc_cond rfl (fun hc => ?_) (fun hc => ?_)) | (refine wc_draw (by kernel_rfl) (by kernel_rfl) (by decide +kernel) ?_; intro w0 hw0 hm0; (try simp only [List.append_eq, List.cons_append, List.nil_append])) | (refine auP ?_) | ((refine auR ?_); clear hK K) | (refine auR ?_) | ((with_reducible refine hK _ _ ?_); clear hK K) | fail))
    all_goals (
      first | refine end_ret (ResP.tmp rfl ResP.nil) ?_ | refine end_normal (ResP.tmp rfl ResP.nil) ?_
      first | rfl | (show _ = _; rfl) | (simp only [tupV, *]; done))
set_option maxHeartbeats 4000000 in
theorem turns_9 (w : World) {v bv : Value} {l : List Att} {p : List Nat} (c : Bool) {x : Bool} (hx : isA (abs l) 9 = x) (hp : p = [0] ∨ p = [1]) (h : Ats w v l) (hb : Cb w bv p.length p) : Calls Try.prog 55 [v, .agg #[.int .i64 (9), bv], .bool c].toArray w (Ret (.bool (p.getD 0 0 == 0 || x)) w) := by
  haveI := h.old
  have i1 := hb.old
  obtain ⟨pv, cv, rfl, hcv, _⟩ := hb.cs.ln.out
  have d1 : (p.drop 0).take (p.length - 0) = p := by rw [List.drop_zero, Nat.sub_zero, List.take_length]
  have d0 : p.length - 0 = p.length := rfl
  have q1 : ((9 : Int) == 1) = false := rfl
  have q4 : ((9 : Int) == 4) = false := rfl
  have q10 : ((9 : Int) == 10) = false := rfl
  have q11 : ((9 : Int) == 11) = false := rfl
  have q12 : ((9 : Int) == 12) = false := rfl
  have q5 : ((9 : Int) == 5) = false := rfl
  have q6 : ((9 : Int) == 6) = false := rfl
  have q8 : ((9 : Int) == 8) = false := rfl
  have q9 : ((9 : Int) == 9) = true := rfl
  have IS := fun w' (h : Ats w' v l) => is_c w' h hx
  clear h hb hx
  rcases hp with rfl | rfl
  · have g0 : (bl [0])[0]? = some (.int .u8 ((0 : Nat) : Int)) := rfl
    have t0 : ((((0 : Nat) : Int)) == 0) = true := rfl
    have j0 : (0 : Int) < (([0].length : Nat) : Int) := by simp
    cases x
    all_goals (
      refine fn_ret (N := _) Try.func55 rfl Try.ntmps55 Try.results55 (by simp) ?_
      simp only [initS, Nat.reduceAdd, Nat.zero_add])
    all_goals (
      repeat' (first | (refine wlS ?_) | (refine wlB ?_) | ((with_reducible refine sel_call ?_); refine wl_rd rfl rfl (rd_call rfl rfl rfl (fun w hm => by with_reducible exact IS w (VwT.out w hm))) ?_) | (refine wlE ?_) | (refine efSvvp ?_; intro v hv hp) | (refine efSvao ?_; intro v oa ho) | (refine efBnn ?_; intro n hn) | (refine wl_skip rfl rfl ?_) | ((with_reducible refine wc_seq ?_); intro K hK) | (refine auC ?_) | (refine wc_cond rfl (fun hc => ?_) (fun hc => ?_)) | (refine wc_draw (by kernel_rfl) (by kernel_rfl) (by decide +kernel) ?_; intro w0 hw0 hm0; (try simp only [List.append_eq, List.cons_append, List.nil_append])) | (refine auP ?_) | ((refine auR ?_); clear hK K) | (refine auR ?_) | ((with_reducible refine hK _ _ ?_); clear hK K) | fail))
    all_goals (
      first | refine end_ret (ResP.tmp rfl ResP.nil) ?_ | refine end_normal (ResP.tmp rfl ResP.nil) ?_
      first | rfl | (show _ = _; rfl) | (simp only [tupV, *]; done))
  · have g0 : (bl [1])[0]? = some (.int .u8 ((1 : Nat) : Int)) := rfl
    have t0 : ((((1 : Nat) : Int)) == 0) = false := rfl
    have j0 : (0 : Int) < (([1].length : Nat) : Int) := by simp
    cases x
    all_goals (
      refine fn_ret (N := _) Try.func55 rfl Try.ntmps55 Try.results55 (by simp) ?_
      simp only [initS, Nat.reduceAdd, Nat.zero_add])
    all_goals (
      repeat' (first | (refine wlS ?_) | (refine wlB ?_) | ((with_reducible refine sel_call ?_); refine wl_rd rfl rfl (rd_call rfl rfl rfl (fun w hm => by with_reducible exact IS w (VwT.out w hm))) ?_) | (refine wlE ?_) | (refine efSvvp ?_; intro v hv hp) | (refine efSvao ?_; intro v oa ho) | (refine efBnn ?_; intro n hn) | (refine wl_skip rfl rfl ?_) | ((with_reducible refine wc_seq ?_); intro K hK) | (refine auC ?_) | (refine wc_cond rfl (fun hc => ?_) (fun hc => ?_)) | (refine wc_draw (by kernel_rfl) (by kernel_rfl) (by decide +kernel) ?_; intro w0 hw0 hm0; (try simp only [List.append_eq, List.cons_append, List.nil_append])) | (refine auP ?_) | ((refine auR ?_); clear hK K) | (refine auR ?_) | ((with_reducible refine hK _ _ ?_); clear hK K) | fail))
    all_goals (
      first | refine end_ret (ResP.tmp rfl ResP.nil) ?_ | refine end_normal (ResP.tmp rfl ResP.nil) ?_
      first | rfl | (show _ = _; rfl) | (simp only [tupV, *]; done))
set_option maxHeartbeats 4000000 in
theorem turns_0 (w : World) {v bv : Value} {l : List Att} {p : List Nat} (c : Bool) {k : Int} (q1 : (k == 1) = false) (q4 : (k == 4) = false) (q10 : (k == 10) = false) (q11 : (k == 11) = false) (q12 : (k == 12) = false) (q5 : (k == 5) = false) (q6 : (k == 6) = false) (q8 : (k == 8) = false) (q9 : (k == 9) = false) (h : Ats w v l) (hb : Cb w bv p.length p) : Calls Try.prog 55 [v, .agg #[.int .i64 k, bv], .bool c].toArray w (Ret (.bool (true)) w) := by
  haveI := h.old
  have i1 := hb.old
  obtain ⟨pv, cv, rfl, hcv, _⟩ := hb.cs.ln.out
  have d1 : (p.drop 0).take (p.length - 0) = p := by rw [List.drop_zero, Nat.sub_zero, List.take_length]
  have d0 : p.length - 0 = p.length := rfl
  clear h hb
  refine fn_ret (N := _) Try.func55 rfl Try.ntmps55 Try.results55 (by simp) ?_
  simp only [initS, Nat.reduceAdd, Nat.zero_add]
  repeat' (first | (refine wlS ?_) | (refine wlB ?_) | (refine wlE ?_) | (refine efSvvp ?_; intro v hv hp) | (refine efSvao ?_; intro v oa ho) | (refine efBnn ?_; intro n hn) | (refine wl_skip rfl rfl ?_) | ((with_reducible refine wc_seq ?_); intro K hK) | (refine auC ?_) | (refine wc_cond rfl (fun hc => ?_) (fun hc => ?_)) | (refine wc_draw (by kernel_rfl) (by kernel_rfl) (by decide +kernel) ?_; intro w0 hw0 hm0; (try simp only [List.append_eq, List.cons_append, List.nil_append])) | (refine auP ?_) | ((refine auR ?_); clear hK K) | (refine auR ?_) | ((with_reducible refine hK _ _ ?_); clear hK K) | fail)
  first | refine end_ret (ResP.tmp rfl ResP.nil) ?_ | refine end_normal (ResP.tmp rfl ResP.nil) ?_
  first | rfl | (show _ = _; rfl) | (simp only [tupV, *]; done)
theorem turns_c (w : World) {v bv : Value} {l : List Att} (k : Int) {p : List Nat} (c : Bool) (h : Ats w v l) (hb : Cb w bv p.length p) (hf : fitsB (k, p) = true) : Calls Try.prog 55 [v, .agg #[.int .i64 k, bv], .bool c].toArray w (Ret (.bool (turnsB (abs l) (k, p) c)) w) := by
  by_cases c1 : k = 1
  · subst c1
    exact turns_1 w c h hb
  by_cases c4 : k = 4
  · subst c4
    exact turns_4 w c h hb
  by_cases c10 : k = 10
  · subst c10
    exact turns_10 w c h hb
  by_cases c11 : k = 11
  · subst c11
    exact turns_11 w c h hb
  by_cases c12 : k = 12
  · subst c12
    exact turns_12 w c h hb
  by_cases c5 : k = 5
  · subst c5
    exact turns_5 w c h hb
  by_cases c6 : k = 6
  · subst c6
    exact turns_6 w c rfl (fits_bit hf (by decide) (by decide) (by decide) (by decide)) h hb
  by_cases c8 : k = 8
  · subst c8
    exact turns_8 w c rfl (fits_bit hf (by decide) (by decide) (by decide) (by decide)) h hb
  by_cases c9 : k = 9
  · subst c9
    exact turns_9 w c rfl (fits_bit hf (by decide) (by decide) (by decide) (by decide)) h hb
  have e : turnsB (abs l) (k, p) c = true := by
    unfold turnsB
    dsimp only
    rw [if_neg (by omega), if_neg (by omega), if_neg (by omega), if_neg (by omega), if_neg (by omega)]
  rw [e]
  exact turns_0 w c (by simpa using c1) (by simpa using c4) (by simpa using c10) (by simpa using c11) (by simpa using c12) (by simpa using c5) (by simpa using c6) (by simpa using c8) (by simpa using c9) h hb
end Go.Proofs.Ytlpalhagndmpjaa
