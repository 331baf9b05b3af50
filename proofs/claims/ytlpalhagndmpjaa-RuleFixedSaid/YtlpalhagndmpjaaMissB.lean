/- rule.missing, walked, kind by kind. (Printed by wip/genrule2.py.) -/
import Derived.Test.YtlpalhagndmpjaaJnAC
namespace Go.Proofs.Ytlpalhagndmpjaa
open Go.RowKit
set_option linter.unusedVariables false
set_option linter.unusedSimpArgs false
set_option maxRecDepth 100000
set_option maxHeartbeats 4000000 in
theorem miss_0_2 (w : World) {v : Value} {l : List Att} (c : Nat) (loc : Bool) (h : Ats w v l) (hk : AbOk (abs l)) (hg : getA (abs l) 9 = none) : Calls Try.prog 43 [v, .int .i64 (2), .int .u8 (c : Int), .bool loc].toArray w (RetO (fun u => u) (fun u oa => OwnB 5 u (([] : List Nat)).length (([] : List Nat)) oa) w) := by
  haveI := h.old
  have GG := fun w' (h : Ats w' v l) => get_no w' h hg
  have q2 : ((2 : Int) == 2) = true := rfl
  clear h hk hg
  refine fn_own (N := _) Try.func43 rfl Try.ntmps43 Try.results43 (by simp) ?_
  simp only [initS, Nat.reduceAdd, Nat.zero_add]
  repeat' (first | (refine wlS ?_) | (refine wlB ?_) | ((with_reducible refine sel_call ?_); refine wl_rd rfl rfl (rd_call rfl rfl rfl (fun w hm => by with_reducible exact GG w (VwT.out w hm))) ?_) | (refine wlE ?_) | (refine efSvao ?_; intro v oa ho) | (refine wl_skip rfl rfl ?_) | ((with_reducible refine wc_seq ?_); intro K hK) | (refine auC ?_) | (refine wc_cond rfl (fun hc => ?_) (fun hc => ?_)) | (refine wc_draw (by kernel_rfl) (by kernel_rfl) (by decide +kernel) ?_; intro w0 hw0 hm0; (try simp only [List.append_eq, List.cons_append, List.nil_append])) | (refine auP ?_) | ((refine auR ?_); clear hK K) | (refine auR ?_) | ((with_reducible refine hK _ _ ?_); clear hK K) | fail)
  first | refine end_ret (ResP.tmp rfl ResP.nil) ?_ | refine end_normal (ResP.tmp rfl ResP.nil) ?_
  (try dsimp only [tupV])
  exact ⟨_, _, rfl, ⟨OwnL.nil _ _, BL.nil⟩, .nil⟩
set_option maxHeartbeats 4000000 in
theorem miss_0_3 (w : World) {v : Value} {l : List Att} (c : Nat) (loc : Bool) (h : Ats w v l) (hk : AbOk (abs l)) (hg : getA (abs l) 9 = none) : Calls Try.prog 43 [v, .int .i64 (3), .int .u8 (c : Int), .bool loc].toArray w (RetO (fun u => u) (fun u oa => OwnB 5 u (([] : List Nat)).length (([] : List Nat)) oa) w) := by
  haveI := h.old
  have GG := fun w' (h : Ats w' v l) => get_no w' h hg
  have q2 : ((3 : Int) == 2) = false := rfl
  have q3 : ((3 : Int) == 3) = true := rfl
  clear h hk hg
  refine fn_own (N := _) Try.func43 rfl Try.ntmps43 Try.results43 (by simp) ?_
  simp only [initS, Nat.reduceAdd, Nat.zero_add]
  repeat' (first | (refine wlS ?_) | (refine wlB ?_) | ((with_reducible refine sel_call ?_); refine wl_rd rfl rfl (rd_call rfl rfl rfl (fun w hm => by with_reducible exact GG w (VwT.out w hm))) ?_) | (refine wlE ?_) | (refine efSvao ?_; intro v oa ho) | (refine wl_skip rfl rfl ?_) | ((with_reducible refine wc_seq ?_); intro K hK) | (refine auC ?_) | (refine wc_cond rfl (fun hc => ?_) (fun hc => ?_)) | (refine wc_draw (by kernel_rfl) (by kernel_rfl) (by decide +kernel) ?_; intro w0 hw0 hm0; (try simp only [List.append_eq, List.cons_append, List.nil_append])) | (refine auP ?_) | ((refine auR ?_); clear hK K) | (refine auR ?_) | ((with_reducible refine hK _ _ ?_); clear hK K) | fail)
  first | refine end_ret (ResP.tmp rfl ResP.nil) ?_ | refine end_normal (ResP.tmp rfl ResP.nil) ?_
  (try dsimp only [tupV])
  exact ⟨_, _, rfl, ⟨OwnL.nil _ _, BL.nil⟩, .nil⟩
set_option maxHeartbeats 4000000 in
theorem miss_0_6 (w : World) {v : Value} {l : List Att} (c : Nat) (loc : Bool) {y2 y4 : Bool} (b2 : ((c : Int) == 2) = y2) (b4 : ((c : Int) == 4) = y4) (h : Ats w v l) (hk : AbOk (abs l)) (hg : getA (abs l) 9 = none) : Calls Try.prog 43 [v, .int .i64 (6), .int .u8 (c : Int), .bool loc].toArray w (RetO (fun u => u) (fun u oa => OwnB 5 u (bitL (y2 || y4)).length (bitL (y2 || y4)) oa) w) := by
  haveI := h.old
  have GG := fun w' (h : Ats w' v l) => get_no w' h hg
  have q2 : ((6 : Int) == 2) = false := rfl
  have q3 : ((6 : Int) == 3) = false := rfl
  have q6 : ((6 : Int) == 6) = true := rfl
  clear h hk hg
  cases y2 <;> cases y4
  all_goals (
    refine fn_own (N := _) Try.func43 rfl Try.ntmps43 Try.results43 (by simp) ?_
    simp only [initS, Nat.reduceAdd, Nat.zero_add])
  all_goals (
    repeat' (first | (refine wlS ?_) | (refine wlB ?_) | ((with_reducible refine sel_call ?_); refine wl_rd rfl rfl (rd_call rfl rfl rfl (fun w hm => by with_reducible exact GG w (VwT.out w hm))) ?_) | (refine wlE ?_) | (refine efSvao ?_; intro v oa ho) | ((with_reducible refine sel_call ?_); first | (refine wl_newO rfl rfl rfl rfl rfl (fun w hm => by with_reducible exact bit_c w _) ?_; intro x oa hx)) | (refine wl_skip rfl rfl ?_) | ((with_reducible refine wc_seq ?_); intro K hK) | (refine auC ?_) | (refine wc_cond rfl (fun hc => ?_) (fun hc => ?_)) | (refine wc_draw (by kernel_rfl) (by kernel_rfl) (by decide +kernel) ?_; intro w0 hw0 hm0; (try simp only [List.append_eq, List.cons_append, List.nil_append])) | (refine auP ?_) | ((refine auR ?_); clear hK K) | (refine auR ?_) | ((with_reducible refine hK _ _ ?_); clear hK K) | fail))
  all_goals (
    first | refine end_ret (ResP.tmp rfl ResP.nil) ?_ | refine end_normal (ResP.tmp rfl ResP.nil) ?_
    (try dsimp only [tupV]))
  all_goals exact ⟨_, _, rfl, hx, by
    repeat (first | exact SubL.nil | exact SubL.refl _ | refine SubL.keep ?_ | exact SubL.headA _ _ | refine SubL.keepA ?_ _ | refine SubL.skip ?_ | refine SubL.skipA ?_ _)⟩
set_option maxHeartbeats 4000000 in
theorem miss_0_7 (w : World) {v : Value} {l : List Att} (c : Nat) (loc : Bool) (h : Ats w v l) (hk : AbOk (abs l)) (hg : getA (abs l) 9 = none) : Calls Try.prog 43 [v, .int .i64 (7), .int .u8 (c : Int), .bool loc].toArray w (RetO (fun u => u) (fun u oa => OwnB 5 u (bitL true).length (bitL true) oa) w) := by
  haveI := h.old
  have GG := fun w' (h : Ats w' v l) => get_no w' h hg
  have q2 : ((7 : Int) == 2) = false := rfl
  have q3 : ((7 : Int) == 3) = false := rfl
  have q6 : ((7 : Int) == 6) = false := rfl
  have q7 : ((7 : Int) == 7) = true := rfl
  clear h hk hg
  refine fn_own (N := _) Try.func43 rfl Try.ntmps43 Try.results43 (by simp) ?_
  simp only [initS, Nat.reduceAdd, Nat.zero_add]
  repeat' (first | (refine wlS ?_) | (refine wlB ?_) | ((with_reducible refine sel_call ?_); refine wl_rd rfl rfl (rd_call rfl rfl rfl (fun w hm => by with_reducible exact GG w (VwT.out w hm))) ?_) | (refine wlE ?_) | (refine efSvao ?_; intro v oa ho) | ((with_reducible refine sel_call ?_); first | (refine wl_newO rfl rfl rfl rfl rfl (fun w hm => by with_reducible exact bit_c w _) ?_; intro x oa hx)) | (refine wl_skip rfl rfl ?_) | ((with_reducible refine wc_seq ?_); intro K hK) | (refine auC ?_) | (refine wc_cond rfl (fun hc => ?_) (fun hc => ?_)) | (refine wc_draw (by kernel_rfl) (by kernel_rfl) (by decide +kernel) ?_; intro w0 hw0 hm0; (try simp only [List.append_eq, List.cons_append, List.nil_append])) | (refine auP ?_) | ((refine auR ?_); clear hK K) | (refine auR ?_) | ((with_reducible refine hK _ _ ?_); clear hK K) | fail)
  first | refine end_ret (ResP.tmp rfl ResP.nil) ?_ | refine end_normal (ResP.tmp rfl ResP.nil) ?_
  (try dsimp only [tupV])
  exact ⟨_, _, rfl, hx, by
    repeat (first | exact SubL.nil | exact SubL.refl _ | refine SubL.keep ?_ | exact SubL.headA _ _ | refine SubL.keepA ?_ _ | refine SubL.skip ?_ | refine SubL.skipA ?_ _)⟩
set_option maxHeartbeats 4000000 in
theorem miss_0_9 (w : World) {v : Value} {l : List Att} (c : Nat) (loc : Bool) (h : Ats w v l) (hk : AbOk (abs l)) (hg : getA (abs l) 9 = none) : Calls Try.prog 43 [v, .int .i64 (9), .int .u8 (c : Int), .bool loc].toArray w (RetO (fun u => u) (fun u oa => OwnB 5 u (bitL true).length (bitL true) oa) w) := by
  haveI := h.old
  have GG := fun w' (h : Ats w' v l) => get_no w' h hg
  have q2 : ((9 : Int) == 2) = false := rfl
  have q3 : ((9 : Int) == 3) = false := rfl
  have q6 : ((9 : Int) == 6) = false := rfl
  have q7 : ((9 : Int) == 7) = false := rfl
  have q9 : ((9 : Int) == 9) = true := rfl
  clear h hk hg
  refine fn_own (N := _) Try.func43 rfl Try.ntmps43 Try.results43 (by simp) ?_
  simp only [initS, Nat.reduceAdd, Nat.zero_add]
  repeat' (first | (refine wlS ?_) | (refine wlB ?_) | ((with_reducible refine sel_call ?_); refine wl_rd rfl rfl (rd_call rfl rfl rfl (fun w hm => by with_reducible exact GG w (VwT.out w hm))) ?_) | (refine wlE ?_) | (refine efSvao ?_; intro v oa ho) | ((with_reducible refine sel_call ?_); first | (refine wl_newO rfl rfl rfl rfl rfl (fun w hm => by with_reducible exact bit_c w _) ?_; intro x oa hx)) | (refine wl_skip rfl rfl ?_) | ((with_reducible refine wc_seq ?_); intro K hK) | (refine auC ?_) | (refine wc_cond rfl (fun hc => ?_) (fun hc => ?_)) | (refine wc_draw (by kernel_rfl) (by kernel_rfl) (by decide +kernel) ?_; intro w0 hw0 hm0; (try simp only [List.append_eq, List.cons_append, List.nil_append])) | (refine auP ?_) | ((refine auR ?_); clear hK K) | (refine auR ?_) | ((with_reducible refine hK _ _ ?_); clear hK K) | fail)
  first | refine end_ret (ResP.tmp rfl ResP.nil) ?_ | refine end_normal (ResP.tmp rfl ResP.nil) ?_
  (try dsimp only [tupV])
  exact ⟨_, _, rfl, hx, by
    repeat (first | exact SubL.nil | exact SubL.refl _ | refine SubL.keep ?_ | exact SubL.headA _ _ | refine SubL.keepA ?_ _ | refine SubL.skip ?_ | refine SubL.skipA ?_ _)⟩
set_option maxHeartbeats 4000000 in
theorem miss_0_12 (w : World) {v : Value} {l : List Att} (c : Nat) (loc : Bool) (h : Ats w v l) (hk : AbOk (abs l)) (hg : getA (abs l) 9 = none) : Calls Try.prog 43 [v, .int .i64 (12), .int .u8 (c : Int), .bool loc].toArray w (RetO (fun u => u) (fun u oa => OwnB 5 u (bitL loc).length (bitL loc) oa) w) := by
  haveI := h.old
  have GG := fun w' (h : Ats w' v l) => get_no w' h hg
  have q2 : ((12 : Int) == 2) = false := rfl
  have q3 : ((12 : Int) == 3) = false := rfl
  have q6 : ((12 : Int) == 6) = false := rfl
  have q7 : ((12 : Int) == 7) = false := rfl
  have q9 : ((12 : Int) == 9) = false := rfl
  have q12 : ((12 : Int) == 12) = true := rfl
  clear h hk hg
  refine fn_own (N := _) Try.func43 rfl Try.ntmps43 Try.results43 (by simp) ?_
  simp only [initS, Nat.reduceAdd, Nat.zero_add]
  repeat' (first | (refine wlS ?_) | (refine wlB ?_) | ((with_reducible refine sel_call ?_); refine wl_rd rfl rfl (rd_call rfl rfl rfl (fun w hm => by with_reducible exact GG w (VwT.out w hm))) ?_) | (refine wlE ?_) | (refine efSvao ?_; intro v oa ho) | ((with_reducible refine sel_call ?_); first | (refine wl_newO rfl rfl rfl rfl rfl (fun w hm => by with_reducible exact bit_c w _) ?_; intro x oa hx)) | (refine wl_skip rfl rfl ?_) | ((with_reducible refine wc_seq ?_); intro K hK) | (refine auC ?_) | (refine wc_cond rfl (fun hc => ?_) (fun hc => ?_)) | (refine wc_draw (by kernel_rfl) (by kernel_rfl) (by decide +kernel) ?_; intro w0 hw0 hm0; (try simp only [List.append_eq, List.cons_append, List.nil_append])) | (refine auP ?_) | ((refine auR ?_); clear hK K) | (refine auR ?_) | ((with_reducible refine hK _ _ ?_); clear hK K) | fail)
  first | refine end_ret (ResP.tmp rfl ResP.nil) ?_ | refine end_normal (ResP.tmp rfl ResP.nil) ?_
  (try dsimp only [tupV])
  exact ⟨_, _, rfl, hx, by
    repeat (first | exact SubL.nil | exact SubL.refl _ | refine SubL.keep ?_ | exact SubL.headA _ _ | refine SubL.keepA ?_ _ | refine SubL.skip ?_ | refine SubL.skipA ?_ _)⟩
set_option maxHeartbeats 4000000 in
theorem miss_0_10 (w : World) {v : Value} {l : List Att} (c : Nat) (loc : Bool) {x8 : Bool} (hx8 : isA (abs l) 8 = x8) (h : Ats w v l) (hk : AbOk (abs l)) (hg : getA (abs l) 9 = none) : Calls Try.prog 43 [v, .int .i64 (10), .int .u8 (c : Int), .bool loc].toArray w (RetO (fun u => u) (fun u oa => OwnB 5 u (bitL (loc && x8)).length (bitL (loc && x8)) oa) w) := by
  haveI := h.old
  have GG := fun w' (h : Ats w' v l) => get_no w' h hg
  have I8 := fun w' (h : Ats w' v l) => is_c w' h hx8
  have q2 : ((10 : Int) == 2) = false := rfl
  have q3 : ((10 : Int) == 3) = false := rfl
  have q6 : ((10 : Int) == 6) = false := rfl
  have q7 : ((10 : Int) == 7) = false := rfl
  have q9 : ((10 : Int) == 9) = false := rfl
  have q12 : ((10 : Int) == 12) = false := rfl
  have q10 : ((10 : Int) == 10) = true := rfl
  clear h hk hg hx8
  cases loc <;> cases x8
  all_goals (
    refine fn_own (N := _) Try.func43 rfl Try.ntmps43 Try.results43 (by simp) ?_
    simp only [initS, Nat.reduceAdd, Nat.zero_add])
  all_goals (
    repeat' (first | (refine wlS ?_) | (refine wlB ?_) | ((with_reducible refine sel_call ?_); refine wl_rd rfl rfl (rd_call rfl rfl rfl (fun w hm => by with_reducible first | exact GG w (VwT.out w hm) | exact I8 w (VwT.out w hm))) ?_) | (refine wlE ?_) | (refine efSvao ?_; intro v oa ho) | ((with_reducible refine sel_call ?_); first | (refine wl_newO rfl rfl rfl rfl rfl (fun w hm => by with_reducible exact bit_c w _) ?_; intro x oa hx)) | (refine wl_skip rfl rfl ?_) | ((with_reducible refine wc_seq ?_); intro K hK) | (refine auC ?_) | (refine wc_cond rfl (fun hc => ?_) (fun hc => ?_)) | (refine wc_draw (by kernel_rfl) (by kernel_rfl) (by decide +kernel) ?_; intro w0 hw0 hm0; (try simp only [List.append_eq, List.cons_append, List.nil_append])) | (refine auP ?_) | ((refine auR ?_); clear hK K) | (refine auR ?_) | ((with_reducible refine hK _ _ ?_); clear hK K) | fail))
  all_goals (
    first | refine end_ret (ResP.tmp rfl ResP.nil) ?_ | refine end_normal (ResP.tmp rfl ResP.nil) ?_
    (try dsimp only [tupV]))
  all_goals exact ⟨_, _, rfl, hx, by
    repeat (first | exact SubL.nil | exact SubL.refl _ | refine SubL.keep ?_ | exact SubL.headA _ _ | refine SubL.keepA ?_ _ | refine SubL.skip ?_ | refine SubL.skipA ?_ _)⟩
set_option maxHeartbeats 4000000 in
theorem miss_0_11 (w : World) {v : Value} {l : List Att} (c : Nat) (loc : Bool) {x9 : Bool} (hx9 : isA (abs l) 9 = x9) (h : Ats w v l) (hk : AbOk (abs l)) (hg : getA (abs l) 9 = none) : Calls Try.prog 43 [v, .int .i64 (11), .int .u8 (c : Int), .bool loc].toArray w (RetO (fun u => u) (fun u oa => OwnB 5 u (bitL (loc && false && !x9)).length (bitL (loc && false && !x9)) oa) w) := by
  haveI := h.old
  have GG := fun w' (h : Ats w' v l) => get_no w' h hg
  have I9 := fun w' (h : Ats w' v l) => is_c w' h hx9
  have q2 : ((11 : Int) == 2) = false := rfl
  have q3 : ((11 : Int) == 3) = false := rfl
  have q6 : ((11 : Int) == 6) = false := rfl
  have q7 : ((11 : Int) == 7) = false := rfl
  have q9 : ((11 : Int) == 9) = false := rfl
  have q12 : ((11 : Int) == 12) = false := rfl
  have q10 : ((11 : Int) == 10) = false := rfl
  have q11 : ((11 : Int) == 11) = true := rfl
  clear h hk hg hx9
  cases loc <;> cases x9
  all_goals (
    refine fn_own (N := _) Try.func43 rfl Try.ntmps43 Try.results43 (by simp) ?_
    simp only [initS, Nat.reduceAdd, Nat.zero_add])
  all_goals (
    repeat' (first | (refine wlS ?_) | (refine wlB ?_) | ((with_reducible refine sel_call ?_); refine wl_rd rfl rfl (rd_call rfl rfl rfl (fun w hm => by with_reducible first | exact GG w (VwT.out w hm) | exact I9 w (VwT.out w hm))) ?_) | (refine wlE ?_) | (refine efSvao ?_; intro v oa ho) | ((with_reducible refine sel_call ?_); first | (refine wl_newO rfl rfl rfl rfl rfl (fun w hm => by with_reducible exact bit_c w _) ?_; intro x oa hx)) | (refine wl_skip rfl rfl ?_) | ((with_reducible refine wc_seq ?_); intro K hK) | (refine auC ?_) | (refine wc_cond rfl (fun hc => ?_) (fun hc => ?_)) | (refine wc_draw (by kernel_rfl) (by kernel_rfl) (by decide +kernel) ?_; intro w0 hw0 hm0; (try simp only [List.append_eq, List.cons_append, List.nil_append])) | (refine auP ?_) | ((refine auR ?_); clear hK K) | (refine auR ?_) | ((with_reducible refine hK _ _ ?_); clear hK K) | fail))
  all_goals (
    first | refine end_ret (ResP.tmp rfl ResP.nil) ?_ | refine end_normal (ResP.tmp rfl ResP.nil) ?_
    (try dsimp only [tupV]))
  all_goals exact ⟨_, _, rfl, hx, by
    repeat (first | exact SubL.nil | exact SubL.refl _ | refine SubL.keep ?_ | exact SubL.headA _ _ | refine SubL.keepA ?_ _ | refine SubL.skip ?_ | refine SubL.skipA ?_ _)⟩
set_option maxHeartbeats 4000000 in
theorem miss_0_0 (w : World) {v : Value} {l : List Att} (c : Nat) (loc : Bool) {k : Int} (q2 : (k == 2) = false) (q3 : (k == 3) = false) (q6 : (k == 6) = false) (q7 : (k == 7) = false) (q9 : (k == 9) = false) (q12 : (k == 12) = false) (q10 : (k == 10) = false) (q11 : (k == 11) = false) (h : Ats w v l) (hk : AbOk (abs l)) (hg : getA (abs l) 9 = none) : Calls Try.prog 43 [v, .int .i64 k, .int .u8 (c : Int), .bool loc].toArray w (RetO (fun u => u) (fun u oa => OwnB 5 u (bitL false).length (bitL false) oa) w) := by
  haveI := h.old
  have GG := fun w' (h : Ats w' v l) => get_no w' h hg
  clear h hk hg
  refine fn_own (N := _) Try.func43 rfl Try.ntmps43 Try.results43 (by simp) ?_
  simp only [initS, Nat.reduceAdd, Nat.zero_add]
  repeat' (first | (refine wlS ?_) | (refine wlB ?_) | ((with_reducible refine sel_call ?_); refine wl_rd rfl rfl (rd_call rfl rfl rfl (fun w hm => by with_reducible exact GG w (VwT.out w hm))) ?_) | (refine wlE ?_) | (refine efSvao ?_; intro v oa ho) | ((with_reducible refine sel_call ?_); first | (refine wl_newO rfl rfl rfl rfl rfl (fun w hm => by with_reducible exact bit_c w _) ?_; intro x oa hx)) | (refine wl_skip rfl rfl ?_) | ((with_reducible refine wc_seq ?_); intro K hK) | (refine auC ?_) | (refine wc_cond rfl (fun hc => ?_) (fun hc => ?_)) | (refine wc_draw (by kernel_rfl) (by kernel_rfl) (by decide +kernel) ?_; intro w0 hw0 hm0; (try simp only [List.append_eq, List.cons_append, List.nil_append])) | (refine auP ?_) | ((refine auR ?_); clear hK K) | (refine auR ?_) | ((with_reducible refine hK _ _ ?_); clear hK K) | fail)
  first | refine end_ret (ResP.tmp rfl ResP.nil) ?_ | refine end_normal (ResP.tmp rfl ResP.nil) ?_
  (try dsimp only [tupV])
  exact ⟨_, _, rfl, hx, by
    repeat (first | exact SubL.nil | exact SubL.refl _ | refine SubL.keep ?_ | exact SubL.headA _ _ | refine SubL.keepA ?_ _ | refine SubL.skip ?_ | refine SubL.skipA ?_ _)⟩
set_option maxHeartbeats 4000000 in
theorem miss_1_2 (w : World) {v : Value} {l : List Att} (c : Nat) (loc : Bool) {q : List Nat} (h : Ats w v l) (hk : AbOk (abs l)) (hg : getA (abs l) 9 = some q) : Calls Try.prog 43 [v, .int .i64 (2), .int .u8 (c : Int), .bool loc].toArray w (RetO (fun u => u) (fun u oa => OwnB 5 u (([] : List Nat)).length (([] : List Nat)) oa) w) := by
  haveI := h.old
  have GG := fun w' (h : Ats w' v l) => get_yesA w' h hk hg
  have q2 : ((2 : Int) == 2) = true := rfl
  clear h hk hg
  refine fn_own (N := _) Try.func43 rfl Try.ntmps43 Try.results43 (by simp) ?_
  simp only [initS, Nat.reduceAdd, Nat.zero_add]
  repeat' (first | (refine wlS ?_) | (refine wlB ?_) | (refine wlE ?_) | (refine efSvao ?_; intro v oa ho) | ((with_reducible refine sel_call ?_); first | (refine wl_newO rfl rfl rfl rfl rfl (fun w hm => by with_reducible exact GG w (VwT.out w hm)) ?_; intro x oa hx)) | (refine wl_skip rfl rfl ?_) | ((with_reducible refine wc_seq ?_); intro K hK) | (refine auC ?_) | (refine wc_cond rfl (fun hc => ?_) (fun hc => ?_)) | (refine wc_draw (by kernel_rfl) (by kernel_rfl) (by decide +kernel) ?_; intro w0 hw0 hm0; (try simp only [List.append_eq, List.cons_append, List.nil_append])) | (refine auP ?_) | ((refine auR ?_); clear hK K) | (refine auR ?_) | ((with_reducible refine hK _ _ ?_); clear hK K) | fail)
  first | refine end_ret (ResP.tmp rfl ResP.nil) ?_ | refine end_normal (ResP.tmp rfl ResP.nil) ?_
  (try dsimp only [tupV])
  exact ⟨_, _, rfl, ⟨OwnL.nil _ _, BL.nil⟩, .nil⟩
set_option maxHeartbeats 4000000 in
theorem miss_1_3 (w : World) {v : Value} {l : List Att} (c : Nat) (loc : Bool) {q : List Nat} (h : Ats w v l) (hk : AbOk (abs l)) (hg : getA (abs l) 9 = some q) : Calls Try.prog 43 [v, .int .i64 (3), .int .u8 (c : Int), .bool loc].toArray w (RetO (fun u => u) (fun u oa => OwnB 5 u (([] : List Nat)).length (([] : List Nat)) oa) w) := by
  haveI := h.old
  have GG := fun w' (h : Ats w' v l) => get_yesA w' h hk hg
  have q2 : ((3 : Int) == 2) = false := rfl
  have q3 : ((3 : Int) == 3) = true := rfl
  clear h hk hg
  refine fn_own (N := _) Try.func43 rfl Try.ntmps43 Try.results43 (by simp) ?_
  simp only [initS, Nat.reduceAdd, Nat.zero_add]
  repeat' (first | (refine wlS ?_) | (refine wlB ?_) | (refine wlE ?_) | (refine efSvao ?_; intro v oa ho) | ((with_reducible refine sel_call ?_); first | (refine wl_newO rfl rfl rfl rfl rfl (fun w hm => by with_reducible exact GG w (VwT.out w hm)) ?_; intro x oa hx)) | (refine wl_skip rfl rfl ?_) | ((with_reducible refine wc_seq ?_); intro K hK) | (refine auC ?_) | (refine wc_cond rfl (fun hc => ?_) (fun hc => ?_)) | (refine wc_draw (by kernel_rfl) (by kernel_rfl) (by decide +kernel) ?_; intro w0 hw0 hm0; (try simp only [List.append_eq, List.cons_append, List.nil_append])) | (refine auP ?_) | ((refine auR ?_); clear hK K) | (refine auR ?_) | ((with_reducible refine hK _ _ ?_); clear hK K) | fail)
  first | refine end_ret (ResP.tmp rfl ResP.nil) ?_ | refine end_normal (ResP.tmp rfl ResP.nil) ?_
  (try dsimp only [tupV])
  exact ⟨_, _, rfl, ⟨OwnL.nil _ _, BL.nil⟩, .nil⟩
set_option maxHeartbeats 4000000 in
theorem miss_1_6 (w : World) {v : Value} {l : List Att} (c : Nat) (loc : Bool) {q : List Nat} {y2 y4 : Bool} (b2 : ((c : Int) == 2) = y2) (b4 : ((c : Int) == 4) = y4) (h : Ats w v l) (hk : AbOk (abs l)) (hg : getA (abs l) 9 = some q) : Calls Try.prog 43 [v, .int .i64 (6), .int .u8 (c : Int), .bool loc].toArray w (RetO (fun u => u) (fun u oa => OwnB 5 u (bitL (y2 || y4)).length (bitL (y2 || y4)) oa) w) := by
  haveI := h.old
  have GG := fun w' (h : Ats w' v l) => get_yesA w' h hk hg
  have q2 : ((6 : Int) == 2) = false := rfl
  have q3 : ((6 : Int) == 3) = false := rfl
  have q6 : ((6 : Int) == 6) = true := rfl
  clear h hk hg
  cases y2 <;> cases y4
  all_goals (
    refine fn_own (N := _) Try.func43 rfl Try.ntmps43 Try.results43 (by simp) ?_
    simp only [initS, Nat.reduceAdd, Nat.zero_add])
  all_goals (
    repeat' (first | (refine wlS ?_) | (refine wlB ?_) | (refine wlE ?_) | (refine efSvao ?_; intro v oa ho) | ((with_reducible refine sel_call ?_); first | (refine wl_newO rfl rfl rfl rfl rfl (fun w hm => by with_reducible exact GG w (VwT.out w hm)) ?_; intro x oa hx) | (refine wl_newO rfl rfl rfl rfl rfl (fun w hm => by with_reducible exact bit_c w _) ?_; intro x oa hx)) | (refine wl_skip rfl rfl ?_) | ((with_reducible refine wc_seq ?_); intro K hK) | (refine auC ?_) | (refine wc_cond rfl (fun hc => ?_) (fun hc => ?_)) | (refine wc_draw (by kernel_rfl) (by kernel_rfl) (by decide +kernel) ?_; intro w0 hw0 hm0; (try simp only [List.append_eq, List.cons_append, List.nil_append])) | (refine auP ?_) | ((refine auR ?_); clear hK K) | (refine auR ?_) | ((with_reducible refine hK _ _ ?_); clear hK K) | fail))
  all_goals (
    first | refine end_ret (ResP.tmp rfl ResP.nil) ?_ | refine end_normal (ResP.tmp rfl ResP.nil) ?_
    (try dsimp only [tupV]))
  all_goals exact ⟨_, _, rfl, hx, by
    repeat (first | exact SubL.nil | exact SubL.refl _ | refine SubL.keep ?_ | exact SubL.headA _ _ | refine SubL.keepA ?_ _ | refine SubL.skip ?_ | refine SubL.skipA ?_ _)⟩
set_option maxHeartbeats 4000000 in
theorem miss_1_7 (w : World) {v : Value} {l : List Att} (c : Nat) (loc : Bool) {q : List Nat} (h : Ats w v l) (hk : AbOk (abs l)) (hg : getA (abs l) 9 = some q) : Calls Try.prog 43 [v, .int .i64 (7), .int .u8 (c : Int), .bool loc].toArray w (RetO (fun u => u) (fun u oa => OwnB 5 u (bitL true).length (bitL true) oa) w) := by
  haveI := h.old
  have GG := fun w' (h : Ats w' v l) => get_yesA w' h hk hg
  have q2 : ((7 : Int) == 2) = false := rfl
  have q3 : ((7 : Int) == 3) = false := rfl
  have q6 : ((7 : Int) == 6) = false := rfl
  have q7 : ((7 : Int) == 7) = true := rfl
  clear h hk hg
  refine fn_own (N := _) Try.func43 rfl Try.ntmps43 Try.results43 (by simp) ?_
  simp only [initS, Nat.reduceAdd, Nat.zero_add]
  repeat' (first | (refine wlS ?_) | (refine wlB ?_) | (refine wlE ?_) | (refine efSvao ?_; intro v oa ho) | ((with_reducible refine sel_call ?_); first | (refine wl_newO rfl rfl rfl rfl rfl (fun w hm => by with_reducible exact GG w (VwT.out w hm)) ?_; intro x oa hx) | (refine wl_newO rfl rfl rfl rfl rfl (fun w hm => by with_reducible exact bit_c w _) ?_; intro x oa hx)) | (refine wl_skip rfl rfl ?_) | ((with_reducible refine wc_seq ?_); intro K hK) | (refine auC ?_) | (refine wc_cond rfl (fun hc => ?_) (fun hc => ?_)) | (refine wc_draw (by kernel_rfl) (by kernel_rfl) (by decide +kernel) ?_; intro w0 hw0 hm0; (try simp only [List.append_eq, List.cons_append, List.nil_append])) | (refine auP ?_) | ((refine auR ?_); clear hK K) | (refine auR ?_) | ((with_reducible refine hK _ _ ?_); clear hK K) | fail)
  first | refine end_ret (ResP.tmp rfl ResP.nil) ?_ | refine end_normal (ResP.tmp rfl ResP.nil) ?_
  (try dsimp only [tupV])
  exact ⟨_, _, rfl, hx, by
    repeat (first | exact SubL.nil | exact SubL.refl _ | refine SubL.keep ?_ | exact SubL.headA _ _ | refine SubL.keepA ?_ _ | refine SubL.skip ?_ | refine SubL.skipA ?_ _)⟩
set_option maxHeartbeats 4000000 in
theorem miss_1_9 (w : World) {v : Value} {l : List Att} (c : Nat) (loc : Bool) {q : List Nat} (h : Ats w v l) (hk : AbOk (abs l)) (hg : getA (abs l) 9 = some q) : Calls Try.prog 43 [v, .int .i64 (9), .int .u8 (c : Int), .bool loc].toArray w (RetO (fun u => u) (fun u oa => OwnB 5 u (bitL true).length (bitL true) oa) w) := by
  haveI := h.old
  have GG := fun w' (h : Ats w' v l) => get_yesA w' h hk hg
  have q2 : ((9 : Int) == 2) = false := rfl
  have q3 : ((9 : Int) == 3) = false := rfl
  have q6 : ((9 : Int) == 6) = false := rfl
  have q7 : ((9 : Int) == 7) = false := rfl
  have q9 : ((9 : Int) == 9) = true := rfl
  clear h hk hg
  refine fn_own (N := _) Try.func43 rfl Try.ntmps43 Try.results43 (by simp) ?_
  simp only [initS, Nat.reduceAdd, Nat.zero_add]
  repeat' (first | (refine wlS ?_) | (refine wlB ?_) | (refine wlE ?_) | (refine efSvao ?_; intro v oa ho) | ((with_reducible refine sel_call ?_); first | (refine wl_newO rfl rfl rfl rfl rfl (fun w hm => by with_reducible exact GG w (VwT.out w hm)) ?_; intro x oa hx) | (refine wl_newO rfl rfl rfl rfl rfl (fun w hm => by with_reducible exact bit_c w _) ?_; intro x oa hx)) | (refine wl_skip rfl rfl ?_) | ((with_reducible refine wc_seq ?_); intro K hK) | (refine auC ?_) | (refine wc_cond rfl (fun hc => ?_) (fun hc => ?_)) | (refine wc_draw (by kernel_rfl) (by kernel_rfl) (by decide +kernel) ?_; intro w0 hw0 hm0; (try simp only [List.append_eq, List.cons_append, List.nil_append])) | (refine auP ?_) | ((refine auR ?_); clear hK K) | (refine auR ?_) | ((with_reducible refine hK _ _ ?_); clear hK K) | fail)
  first | refine end_ret (ResP.tmp rfl ResP.nil) ?_ | refine end_normal (ResP.tmp rfl ResP.nil) ?_
  (try dsimp only [tupV])
  exact ⟨_, _, rfl, hx, by
    repeat (first | exact SubL.nil | exact SubL.refl _ | refine SubL.keep ?_ | exact SubL.headA _ _ | refine SubL.keepA ?_ _ | refine SubL.skip ?_ | refine SubL.skipA ?_ _)⟩
set_option maxHeartbeats 4000000 in
theorem miss_1_12 (w : World) {v : Value} {l : List Att} (c : Nat) (loc : Bool) {q : List Nat} (h : Ats w v l) (hk : AbOk (abs l)) (hg : getA (abs l) 9 = some q) : Calls Try.prog 43 [v, .int .i64 (12), .int .u8 (c : Int), .bool loc].toArray w (RetO (fun u => u) (fun u oa => OwnB 5 u (bitL loc).length (bitL loc) oa) w) := by
  haveI := h.old
  have GG := fun w' (h : Ats w' v l) => get_yesA w' h hk hg
  have q2 : ((12 : Int) == 2) = false := rfl
  have q3 : ((12 : Int) == 3) = false := rfl
  have q6 : ((12 : Int) == 6) = false := rfl
  have q7 : ((12 : Int) == 7) = false := rfl
  have q9 : ((12 : Int) == 9) = false := rfl
  have q12 : ((12 : Int) == 12) = true := rfl
  clear h hk hg
  refine fn_own (N := _) Try.func43 rfl Try.ntmps43 Try.results43 (by simp) ?_
  simp only [initS, Nat.reduceAdd, Nat.zero_add]
  repeat' (first | (refine wlS ?_) | (refine wlB ?_) | (refine wlE ?_) | (refine efSvao ?_; intro v oa ho) | ((with_reducible refine sel_call ?_); first | (refine wl_newO rfl rfl rfl rfl rfl (fun w hm => by with_reducible exact GG w (VwT.out w hm)) ?_; intro x oa hx) | (refine wl_newO rfl rfl rfl rfl rfl (fun w hm => by with_reducible exact bit_c w _) ?_; intro x oa hx)) | (refine wl_skip rfl rfl ?_) | ((with_reducible refine wc_seq ?_); intro K hK) | (refine auC ?_) | (refine wc_cond rfl (fun hc => ?_) (fun hc => ?_)) | (refine wc_draw (by kernel_rfl) (by kernel_rfl) (by decide +kernel) ?_; intro w0 hw0 hm0; (try simp only [List.append_eq, List.cons_append, List.nil_append])) | (refine auP ?_) | ((refine auR ?_); clear hK K) | (refine auR ?_) | ((with_reducible refine hK _ _ ?_); clear hK K) | fail)
  first | refine end_ret (ResP.tmp rfl ResP.nil) ?_ | refine end_normal (ResP.tmp rfl ResP.nil) ?_
  (try dsimp only [tupV])
  exact ⟨_, _, rfl, hx, by
    repeat (first | exact SubL.nil | exact SubL.refl _ | refine SubL.keep ?_ | exact SubL.headA _ _ | refine SubL.keepA ?_ _ | refine SubL.skip ?_ | refine SubL.skipA ?_ _)⟩
set_option maxHeartbeats 4000000 in
theorem miss_1_10 (w : World) {v : Value} {l : List Att} (c : Nat) (loc : Bool) {q : List Nat} {x8 : Bool} (hx8 : isA (abs l) 8 = x8) (h : Ats w v l) (hk : AbOk (abs l)) (hg : getA (abs l) 9 = some q) : Calls Try.prog 43 [v, .int .i64 (10), .int .u8 (c : Int), .bool loc].toArray w (RetO (fun u => u) (fun u oa => OwnB 5 u (bitL (loc && x8)).length (bitL (loc && x8)) oa) w) := by
  haveI := h.old
  have GG := fun w' (h : Ats w' v l) => get_yesA w' h hk hg
  have I8 := fun w' (h : Ats w' v l) => is_c w' h hx8
  have q2 : ((10 : Int) == 2) = false := rfl
  have q3 : ((10 : Int) == 3) = false := rfl
  have q6 : ((10 : Int) == 6) = false := rfl
  have q7 : ((10 : Int) == 7) = false := rfl
  have q9 : ((10 : Int) == 9) = false := rfl
  have q12 : ((10 : Int) == 12) = false := rfl
  have q10 : ((10 : Int) == 10) = true := rfl
  clear h hk hg hx8
  cases loc <;> cases x8
  all_goals (
    refine fn_own (N := _) Try.func43 rfl Try.ntmps43 Try.results43 (by simp) ?_
    simp only [initS, Nat.reduceAdd, Nat.zero_add])
  all_goals (
    repeat' (first | (refine wlS ?_) | (refine wlB ?_) | ((with_reducible refine sel_call ?_); refine wl_rd rfl rfl (rd_call rfl rfl rfl (fun w hm => by with_reducible exact I8 w (VwT.out w hm))) ?_) | (refine wlE ?_) | (refine efSvao ?_; intro v oa ho) | ((with_reducible refine sel_call ?_); first | (refine wl_newO rfl rfl rfl rfl rfl (fun w hm => by with_reducible exact GG w (VwT.out w hm)) ?_; intro x oa hx) | (refine wl_newO rfl rfl rfl rfl rfl (fun w hm => by with_reducible exact bit_c w _) ?_; intro x oa hx)) | (refine wl_skip rfl rfl ?_) | ((with_reducible refine wc_seq ?_); intro K hK) | (refine auC ?_) | (refine wc_cond rfl (fun hc => ?_) (fun hc => ?_)) | (refine wc_draw (by kernel_rfl) (by kernel_rfl) (by decide +kernel) ?_; intro w0 hw0 hm0; (try simp only [List.append_eq, List.cons_append, List.nil_append])) | (refine auP ?_) | ((refine auR ?_); clear hK K) | (refine auR ?_) | ((with_reducible refine hK _ _ ?_); clear hK K) | fail))
  all_goals (
    first | refine end_ret (ResP.tmp rfl ResP.nil) ?_ | refine end_normal (ResP.tmp rfl ResP.nil) ?_
    (try dsimp only [tupV]))
  all_goals exact ⟨_, _, rfl, hx, by
    repeat (first | exact SubL.nil | exact SubL.refl _ | refine SubL.keep ?_ | exact SubL.headA _ _ | refine SubL.keepA ?_ _ | refine SubL.skip ?_ | refine SubL.skipA ?_ _)⟩
set_option maxHeartbeats 4000000 in
theorem miss_1_11 (w : World) {v : Value} {l : List Att} (c : Nat) (loc : Bool) {q : List Nat} {x9 : Bool} (hx9 : isA (abs l) 9 = x9) (h : Ats w v l) (hk : AbOk (abs l)) (hg : getA (abs l) 9 = some q) : Calls Try.prog 43 [v, .int .i64 (11), .int .u8 (c : Int), .bool loc].toArray w (RetO (fun u => u) (fun u oa => OwnB 5 u (bitL (loc && true && !x9)).length (bitL (loc && true && !x9)) oa) w) := by
  haveI := h.old
  have GG := fun w' (h : Ats w' v l) => get_yesA w' h hk hg
  have I9 := fun w' (h : Ats w' v l) => is_c w' h hx9
  have q2 : ((11 : Int) == 2) = false := rfl
  have q3 : ((11 : Int) == 3) = false := rfl
  have q6 : ((11 : Int) == 6) = false := rfl
  have q7 : ((11 : Int) == 7) = false := rfl
  have q9 : ((11 : Int) == 9) = false := rfl
  have q12 : ((11 : Int) == 12) = false := rfl
  have q10 : ((11 : Int) == 10) = false := rfl
  have q11 : ((11 : Int) == 11) = true := rfl
  clear h hk hg hx9
  cases loc <;> cases x9
  all_goals (
    refine fn_own (N := _) Try.func43 rfl Try.ntmps43 Try.results43 (by simp) ?_
    simp only [initS, Nat.reduceAdd, Nat.zero_add])
  all_goals (
    repeat' (first | (refine wlS ?_) | (refine wlB ?_) | ((with_reducible refine sel_call ?_); refine wl_rd rfl rfl (rd_call rfl rfl rfl (fun w hm => by with_reducible exact I9 w (VwT.out w hm))) ?_) | (refine wlE ?_) | (refine efSvao ?_; intro v oa ho) | ((with_reducible refine sel_call ?_); first | (refine wl_newO rfl rfl rfl rfl rfl (fun w hm => by with_reducible exact GG w (VwT.out w hm)) ?_; intro x oa hx) | (refine wl_newO rfl rfl rfl rfl rfl (fun w hm => by with_reducible exact bit_c w _) ?_; intro x oa hx)) | (refine wl_skip rfl rfl ?_) | ((with_reducible refine wc_seq ?_); intro K hK) | (refine auC ?_) | (refine wc_cond rfl (fun hc => ?_) (fun hc => ?_)) | (refine wc_draw (by kernel_rfl) (by kernel_rfl) (by decide +kernel) ?_; intro w0 hw0 hm0; (try simp only [List.append_eq, List.cons_append, List.nil_append])) | (refine auP ?_) | ((refine auR ?_); clear hK K) | (refine auR ?_) | ((with_reducible refine hK _ _ ?_); clear hK K) | fail))
  all_goals (
    first | refine end_ret (ResP.tmp rfl ResP.nil) ?_ | refine end_normal (ResP.tmp rfl ResP.nil) ?_
    (try dsimp only [tupV]))
  all_goals exact ⟨_, _, rfl, hx, by
    repeat (first | exact SubL.nil | exact SubL.refl _ | refine SubL.keep ?_ | exact SubL.headA _ _ | refine SubL.keepA ?_ _ | refine SubL.skip ?_ | refine SubL.skipA ?_ _)⟩
set_option maxHeartbeats 4000000 in
theorem miss_1_0 (w : World) {v : Value} {l : List Att} (c : Nat) (loc : Bool) {q : List Nat} {k : Int} (q2 : (k == 2) = false) (q3 : (k == 3) = false) (q6 : (k == 6) = false) (q7 : (k == 7) = false) (q9 : (k == 9) = false) (q12 : (k == 12) = false) (q10 : (k == 10) = false) (q11 : (k == 11) = false) (h : Ats w v l) (hk : AbOk (abs l)) (hg : getA (abs l) 9 = some q) : Calls Try.prog 43 [v, .int .i64 k, .int .u8 (c : Int), .bool loc].toArray w (RetO (fun u => u) (fun u oa => OwnB 5 u (bitL false).length (bitL false) oa) w) := by
  haveI := h.old
  have GG := fun w' (h : Ats w' v l) => get_yesA w' h hk hg
  clear h hk hg
  refine fn_own (N := _) Try.func43 rfl Try.ntmps43 Try.results43 (by simp) ?_
  simp only [initS, Nat.reduceAdd, Nat.zero_add]
  repeat' (first | (refine wlS ?_) | (refine wlB ?_) | (refine wlE ?_) | (refine efSvao ?_; intro v oa ho) | ((with_reducible refine sel_call ?_); first | (refine wl_newO rfl rfl rfl rfl rfl (fun w hm => by with_reducible exact GG w (VwT.out w hm)) ?_; intro x oa hx) | (refine wl_newO rfl rfl rfl rfl rfl (fun w hm => by with_reducible exact bit_c w _) ?_; intro x oa hx)) | (refine wl_skip rfl rfl ?_) | ((with_reducible refine wc_seq ?_); intro K hK) | (refine auC ?_) | (refine wc_cond rfl (fun hc => ?_) (fun hc => ?_)) | (refine wc_draw (by kernel_rfl) (by kernel_rfl) (by decide +kernel) ?_; intro w0 hw0 hm0; (try simp only [List.append_eq, List.cons_append, List.nil_append])) | (refine auP ?_) | ((refine auR ?_); clear hK K) | (refine auR ?_) | ((with_reducible refine hK _ _ ?_); clear hK K) | fail)
  first | refine end_ret (ResP.tmp rfl ResP.nil) ?_ | refine end_normal (ResP.tmp rfl ResP.nil) ?_
  (try dsimp only [tupV])
  exact ⟨_, _, rfl, hx, by
    repeat (first | exact SubL.nil | exact SubL.refl _ | refine SubL.keep ?_ | exact SubL.headA _ _ | refine SubL.keepA ?_ _ | refine SubL.skip ?_ | refine SubL.skipA ?_ _)⟩
theorem miss_c (w : World) {v : Value} {l : List Att} (k : Int) (c : Nat) (loc : Bool) (h : Ats w v l) (hk : AbOk (abs l)) : Calls Try.prog 43 [v, .int .i64 k, .int .u8 (c : Int), .bool loc].toArray w (RetO (fun u => u) (fun u oa => OwnB 5 u (missA (abs l) k c loc).length (missA (abs l) k c loc) oa) w) := by
  have b2 : ((c : Int) == 2) = (c == 2) := by rw [Bool.eq_iff_iff]; simp; omega
  have b4 : ((c : Int) == 4) = (c == 4) := by rw [Bool.eq_iff_iff]; simp; omega
  by_cases c2 : k = 2
  · subst c2
    have e : missA (abs l) 2 c loc = [] := rfl
    rw [e]
    cases hg : getA (abs l) 9 with
    | none => exact miss_0_2 w c loc h hk hg
    | some q => exact miss_1_2 w c loc h hk hg
  by_cases c3 : k = 3
  · subst c3
    have e : missA (abs l) 3 c loc = [] := rfl
    rw [e]
    cases hg : getA (abs l) 9 with
    | none => exact miss_0_3 w c loc h hk hg
    | some q => exact miss_1_3 w c loc h hk hg
  by_cases c6 : k = 6
  · subst c6
    have e : missA (abs l) 6 c loc = bitL (c == 2 || c == 4) := rfl
    rw [e]
    cases hg : getA (abs l) 9 with
    | none => exact miss_0_6 w c loc b2 b4 h hk hg
    | some q => exact miss_1_6 w c loc b2 b4 h hk hg
  by_cases c7 : k = 7
  · subst c7
    have e : missA (abs l) 7 c loc = bitL true := rfl
    rw [e]
    cases hg : getA (abs l) 9 with
    | none => exact miss_0_7 w c loc h hk hg
    | some q => exact miss_1_7 w c loc h hk hg
  by_cases c9 : k = 9
  · subst c9
    have e : missA (abs l) 9 c loc = bitL true := rfl
    rw [e]
    cases hg : getA (abs l) 9 with
    | none => exact miss_0_9 w c loc h hk hg
    | some q => exact miss_1_9 w c loc h hk hg
  by_cases c12 : k = 12
  · subst c12
    have e : missA (abs l) 12 c loc = bitL loc := rfl
    rw [e]
    cases hg : getA (abs l) 9 with
    | none => exact miss_0_12 w c loc h hk hg
    | some q => exact miss_1_12 w c loc h hk hg
  by_cases c10 : k = 10
  · subst c10
    have e : missA (abs l) 10 c loc = bitL (loc && isA (abs l) 8) := rfl
    rw [e]
    cases hg : getA (abs l) 9 with
    | none => exact miss_0_10 w c loc rfl h hk hg
    | some q => exact miss_1_10 w c loc rfl h hk hg
  by_cases c11 : k = 11
  · subst c11
    have e : missA (abs l) 11 c loc = bitL (loc && (getA (abs l) 9).isSome && !isA (abs l) 9) := rfl
    rw [e]
    cases hg : getA (abs l) 9 with
    | none => exact miss_0_11 w c loc rfl h hk hg
    | some q => exact miss_1_11 w c loc rfl h hk hg
  have q2 : (k == 2) = false := by simpa using c2
  have q3 : (k == 3) = false := by simpa using c3
  have q6 : (k == 6) = false := by simpa using c6
  have q7 : (k == 7) = false := by simpa using c7
  have q9 : (k == 9) = false := by simpa using c9
  have q12 : (k == 12) = false := by simpa using c12
  have q10 : (k == 10) = false := by simpa using c10
  have q11 : (k == 11) = false := by simpa using c11
  have e : missA (abs l) k c loc = bitL false := by
    unfold missA
    rw [if_neg (by omega), if_neg (by omega), if_neg (by omega), if_neg (by omega), if_neg (by omega), if_neg (by omega)]; rfl
  rw [e]
  cases hg : getA (abs l) 9 with
  | none => exact miss_0_0 w c loc q2 q3 q6 q7 q9 q12 q10 q11 h hk hg
  | some q => exact miss_1_0 w c loc q2 q3 q6 q7 q9 q12 q10 q11 h hk hg
end Go.Proofs.Ytlpalhagndmpjaa
