/- rule.Change, rule.Copy, the laws' turned: walked; []Turning that came in. -/
import Derived.Test.YtlpalhagndmpjaaTurnA
namespace Go.Proofs.Ytlpalhagndmpjaa
open Go.RowKit
set_option linter.unusedVariables false
set_option linter.unusedSimpArgs false
set_option maxRecDepth 100000
section
variable (w : World) {u v : Value} {l t : List Att}
set_option maxHeartbeats 4000000 in
theorem change_bad (hl : Ats w u l) (ht : Ats w v t) (hob : Obj (abs l)) (he : turnE (abs l) (abs t) false ≠ 0) : Calls Try.prog 24 [u, v].toArray w (Ret (.tuple #[.slice none 0 0, .int .i64 (turnE (abs l) (abs t) false)]) w) := by
  haveI := hl.old
  haveI := ht.old
  have TB := fun w' (h : Ats w' u l) (h' : Ats w' v t) => turn_bad w' h h' hob he
  clear hl ht
  generalize turnE (abs l) (abs t) false = e at *
  refine fn_ret (N := _) Try.func24 rfl Try.ntmps24 Try.results24 (by simp) ?_
  simp only [initS, Nat.reduceAdd, Nat.zero_add]
  repeat' (first | (refine wlS ?_) | (refine wlB ?_) | ((with_reducible refine sel_call ?_); refine wl_rd rfl rfl (rd_call rfl rfl rfl (fun w hm => by with_reducible exact TB w (VwT.out w hm) (VwT.out w hm))) ?_) | (refine wlE ?_) | (refine efSvao ?_; intro v oa ho) | (refine wl_skip rfl rfl ?_) | ((with_reducible refine wc_seq ?_); intro K hK) | (refine auC ?_) | (refine wc_cond rfl (fun hc => ?_) (fun hc => ?_)) | (refine wc_draw (by kernel_rfl) (by kernel_rfl) (by decide +kernel) ?_; intro w0 hw0 hm0; (try simp only [List.append_eq, List.cons_append, List.nil_append])) | (refine auP ?_) | ((refine auR ?_); clear hK K) | (refine auR ?_) | ((with_reducible refine hK _ _ ?_); clear hK K) | fail)
  first | refine end_ret (ResP.tmp rfl (ResP.tmp rfl ResP.nil)) ?_ | refine end_normal (ResP.tmp rfl (ResP.tmp rfl ResP.nil)) ?_
  first | rfl | (show _ = _; rfl) | (simp only [tupV, *]; done)
set_option maxHeartbeats 4000000 in
theorem copy_bad (hl : Ats w u l) (ht : Ats w v t) (hob : Obj (abs l)) (he : turnE (abs l) (abs t) true ≠ 0) : Calls Try.prog 45 [u, v].toArray w (Ret (.tuple #[.slice none 0 0, .int .i64 (turnE (abs l) (abs t) true)]) w) := by
  haveI := hl.old
  haveI := ht.old
  have TB := fun w' (h : Ats w' u l) (h' : Ats w' v t) => turn_bad w' h h' hob he
  clear hl ht
  generalize turnE (abs l) (abs t) true = e at *
  refine fn_ret (N := _) Try.func45 rfl Try.ntmps45 Try.results45 (by simp) ?_
  simp only [initS, Nat.reduceAdd, Nat.zero_add]
  repeat' (first | (refine wlS ?_) | (refine wlB ?_) | ((with_reducible refine sel_call ?_); refine wl_rd rfl rfl (rd_call rfl rfl rfl (fun w hm => by with_reducible exact TB w (VwT.out w hm) (VwT.out w hm))) ?_) | (refine wlE ?_) | (refine efSvao ?_; intro v oa ho) | (refine wl_skip rfl rfl ?_) | ((with_reducible refine wc_seq ?_); intro K hK) | (refine auC ?_) | (refine wc_cond rfl (fun hc => ?_) (fun hc => ?_)) | (refine wc_draw (by kernel_rfl) (by kernel_rfl) (by decide +kernel) ?_; intro w0 hw0 hm0; (try simp only [List.append_eq, List.cons_append, List.nil_append])) | (refine auP ?_) | ((refine auR ?_); clear hK K) | (refine auR ?_) | ((with_reducible refine hK _ _ ?_); clear hK K) | fail)
  first | refine end_ret (ResP.tmp rfl (ResP.tmp rfl ResP.nil)) ?_ | refine end_normal (ResP.tmp rfl (ResP.tmp rfl ResP.nil)) ?_
  first | rfl | (show _ = _; rfl) | (simp only [tupV, *]; done)
set_option maxHeartbeats 4000000 in
theorem change_good (hl : Ats w u l) (ht : Ats w v t) (hob : Obj (abs l)) (he : turnE (abs l) (abs t) false = 0) : Calls Try.prog 24 [u, v].toArray w (RetO (fun u : Value => .tuple #[u, .int .i64 0]) (fun u oa => ∃ its, OwnT u its oa ∧ Turn (abs l) (abs t) false (abs its)) w) := by
  haveI := hl.old
  haveI := ht.old
  have TG := fun w' (h : Ats w' u l) (h' : Ats w' v t) => turn_good w' h h' hob he
  clear hl ht
  refine fn_own (N := _) Try.func24 rfl Try.ntmps24 Try.results24 (by simp) ?_
  simp only [initS, Nat.reduceAdd, Nat.zero_add]
  repeat' (first | (refine wlS ?_) | (refine wlB ?_) | (refine wlE ?_) | (refine efSvao ?_; intro v oa ho) | ((with_reducible refine sel_call ?_); first | (refine wl_newO rfl rfl rfl rfl rfl (fun w hm => by with_reducible exact TG w (VwT.out w hm) (VwT.out w hm)) ?_; intro x oa hx)) | (refine wl_skip rfl rfl ?_) | ((with_reducible refine wc_seq ?_); intro K hK) | (refine auC ?_) | (refine wc_cond rfl (fun hc => ?_) (fun hc => ?_)) | (refine wc_draw (by kernel_rfl) (by kernel_rfl) (by decide +kernel) ?_; intro w0 hw0 hm0; (try simp only [List.append_eq, List.cons_append, List.nil_append])) | (refine auP ?_) | ((refine auR ?_); clear hK K) | (refine auR ?_) | ((with_reducible refine hK _ _ ?_); clear hK K) | fail)
  first | refine end_ret (ResP.tmp rfl (ResP.tmp rfl ResP.nil)) ?_ | refine end_normal (ResP.tmp rfl (ResP.tmp rfl ResP.nil)) ?_
  (try dsimp only [tupV])
  exact ⟨_, _, rfl, hx, SubL.refl _⟩
set_option maxHeartbeats 4000000 in
theorem copy_good (hl : Ats w u l) (ht : Ats w v t) (hob : Obj (abs l)) (he : turnE (abs l) (abs t) true = 0) : Calls Try.prog 45 [u, v].toArray w (RetO (fun u : Value => .tuple #[u, .int .i64 0]) (fun u oa => ∃ its, OwnT u its oa ∧ Turn (abs l) (abs t) true (abs its)) w) := by
  haveI := hl.old
  haveI := ht.old
  have TG := fun w' (h : Ats w' u l) (h' : Ats w' v t) => turn_good w' h h' hob he
  clear hl ht
  refine fn_own (N := _) Try.func45 rfl Try.ntmps45 Try.results45 (by simp) ?_
  simp only [initS, Nat.reduceAdd, Nat.zero_add]
  repeat' (first | (refine wlS ?_) | (refine wlB ?_) | (refine wlE ?_) | (refine efSvao ?_; intro v oa ho) | ((with_reducible refine sel_call ?_); first | (refine wl_newO rfl rfl rfl rfl rfl (fun w hm => by with_reducible exact TG w (VwT.out w hm) (VwT.out w hm)) ?_; intro x oa hx)) | (refine wl_skip rfl rfl ?_) | ((with_reducible refine wc_seq ?_); intro K hK) | (refine auC ?_) | (refine wc_cond rfl (fun hc => ?_) (fun hc => ?_)) | (refine wc_draw (by kernel_rfl) (by kernel_rfl) (by decide +kernel) ?_; intro w0 hw0 hm0; (try simp only [List.append_eq, List.cons_append, List.nil_append])) | (refine auP ?_) | ((refine auR ?_); clear hK K) | (refine auR ?_) | ((with_reducible refine hK _ _ ?_); clear hK K) | fail)
  first | refine end_ret (ResP.tmp rfl (ResP.tmp rfl ResP.nil)) ?_ | refine end_normal (ResP.tmp rfl (ResP.tmp rfl ResP.nil)) ?_
  (try dsimp only [tupV])
  exact ⟨_, _, rfl, hx, SubL.refl _⟩
end
set_option maxHeartbeats 8000000 in
theorem turned_same (w : World) {u v : Value} {l t : List Att} {c : Bool} (hl : Ats w u l) (ht : Ats w v t) (hob : Obj (abs l)) (he : turnE (abs l) (abs t) c ≠ 0) : Calls Try.prog 26 [u, .agg #[.bool c, v]].toArray w (Ret u w) := by
  haveI := hl.old
  haveI := ht.old
  haveI : One v := by obtain ⟨_, _, rfl, _⟩ := ht.cs.ln.out; exact ⟨rfl⟩
  obtain ⟨pv, cv, rfl, _⟩ := ht.cs.ln.out
  have t0 : ((0 : Int) != 0) = false := rfl
  cases c with
  | false =>
    have CB := fun w' (h : Ats w' u l) (h' : Ats w' (.slice pv t.length cv) t) => change_bad w' h h' hob he
    have t1 : (turnE (abs l) (abs t) false != 0) = true := by simpa using he
    clear hl ht
    generalize turnE (abs l) (abs t) false = e at *
    refine fn_ret (N := _) Try.func26 rfl Try.ntmps26 Try.results26 (by simp) ?_
    simp only [initS, Nat.reduceAdd, Nat.zero_add]
    repeat' (first | (refine wlS ?_) | (refine wlB ?_) | ((with_reducible refine sel_call ?_); refine wl_rd rfl rfl (rd_call rfl rfl rfl (fun w hm => by with_reducible exact CB w (VwT.out w hm) (VwT.out w hm))) ?_) | (refine wlE ?_) | (refine efSvao ?_; intro v oa ho) | (refine efBnn ?_; intro n hn) | (refine wl_skip rfl rfl ?_) | ((with_reducible refine wc_seq ?_); intro K hK) | (refine auC ?_) | (refine wc_cond rfl (fun hc => ?_) (fun hc => ?_)) | (refine wc_draw (by kernel_rfl) (by kernel_rfl) (by decide +kernel) ?_; intro w0 hw0 hm0; (try simp only [List.append_eq, List.cons_append, List.nil_append])) | (refine auP ?_) | ((refine auR ?_); clear hK K) | (refine auR ?_) | ((with_reducible refine hK _ _ ?_); clear hK K) | fail)
    first | refine end_ret (ResP.tmp rfl ResP.nil) ?_ | refine end_normal (ResP.tmp rfl ResP.nil) ?_
    first | rfl | (show _ = _; rfl) | (simp only [tupV, *]; done)
  | true =>
    have CP := fun w' (h : Ats w' u l) (h' : Ats w' (.slice pv t.length cv) t) => copy_bad w' h h' hob he
    have t1 : (turnE (abs l) (abs t) true != 0) = true := by simpa using he
    by_cases hf : turnE (abs l) (abs t) false = 0
    · have CG := fun w' (h : Ats w' u l) (h' : Ats w' (.slice pv t.length cv) t) => change_good w' h h' hob hf
      clear hl ht
      generalize turnE (abs l) (abs t) true = e at *
      refine fn_ret (N := _) Try.func26 rfl Try.ntmps26 Try.results26 (by simp) ?_
      simp only [initS, Nat.reduceAdd, Nat.zero_add]
      repeat' (first | (refine wlS ?_) | (refine wlB ?_) | ((with_reducible refine sel_call ?_); refine wl_rd rfl rfl (rd_call rfl rfl rfl (fun w hm => by with_reducible exact CP w (VwT.out w hm) (VwT.out w hm))) ?_) | (refine wlE ?_) | (refine efSvao ?_; intro v oa ho) | ((with_reducible refine sel_call ?_); first | (refine wl_newO rfl rfl rfl rfl rfl (fun w hm => by with_reducible exact CG w (VwT.out w hm) (VwT.out w hm)) ?_; intro x oa hx)) | (refine efBnn ?_; intro n hn) | (refine wl_skip rfl rfl ?_) | ((with_reducible refine wc_seq ?_); intro K hK) | (refine auC ?_) | (refine wc_cond rfl (fun hc => ?_) (fun hc => ?_)) | (refine wc_draw (by kernel_rfl) (by kernel_rfl) (by decide +kernel) ?_; intro w0 hw0 hm0; (try simp only [List.append_eq, List.cons_append, List.nil_append])) | (refine auP ?_) | ((refine auR ?_); clear hK K) | (refine auR ?_) | ((with_reducible refine hK _ _ ?_); clear hK K) | fail)
      first | refine end_ret (ResP.tmp rfl ResP.nil) ?_ | refine end_normal (ResP.tmp rfl ResP.nil) ?_
      first | rfl | (show _ = _; rfl) | (simp only [tupV, *]; done)
    · have CB := fun w' (h : Ats w' u l) (h' : Ats w' (.slice pv t.length cv) t) => change_bad w' h h' hob hf
      clear hl ht
      generalize turnE (abs l) (abs t) true = e at *
      generalize turnE (abs l) (abs t) false = e2 at *
      refine fn_ret (N := _) Try.func26 rfl Try.ntmps26 Try.results26 (by simp) ?_
      simp only [initS, Nat.reduceAdd, Nat.zero_add]
      repeat' (first | (refine wlS ?_) | (refine wlB ?_) | ((with_reducible refine sel_call ?_); refine wl_rd rfl rfl (rd_call rfl rfl rfl (fun w hm => by with_reducible first | exact CB w (VwT.out w hm) (VwT.out w hm) | exact CP w (VwT.out w hm) (VwT.out w hm))) ?_) | (refine wlE ?_) | (refine efSvao ?_; intro v oa ho) | (refine efBnn ?_; intro n hn) | (refine wl_skip rfl rfl ?_) | ((with_reducible refine wc_seq ?_); intro K hK) | (refine auC ?_) | (refine wc_cond rfl (fun hc => ?_) (fun hc => ?_)) | (refine wc_draw (by kernel_rfl) (by kernel_rfl) (by decide +kernel) ?_; intro w0 hw0 hm0; (try simp only [List.append_eq, List.cons_append, List.nil_append])) | (refine auP ?_) | ((refine auR ?_); clear hK K) | (refine auR ?_) | ((with_reducible refine hK _ _ ?_); clear hK K) | fail)
      first | refine end_ret (ResP.tmp rfl ResP.nil) ?_ | refine end_normal (ResP.tmp rfl ResP.nil) ?_
      first | rfl | (show _ = _; rfl) | (simp only [tupV, *]; done)
set_option maxHeartbeats 8000000 in
theorem turned_new (w : World) {u v : Value} {l t : List Att} {c : Bool} (hl : Ats w u l) (ht : Ats w v t) (hob : Obj (abs l)) (he : turnE (abs l) (abs t) c = 0) : Calls Try.prog 26 [u, .agg #[.bool c, v]].toArray w (RetO (fun y => y) (fun y oa => ∃ its, OwnT y its oa ∧ Turn (abs l) (abs t) c (abs its)) w) := by
  haveI := hl.old
  haveI := ht.old
  obtain ⟨pv, cv, rfl, _⟩ := ht.cs.ln.out
  have t0 : ((0 : Int) != 0) = false := rfl
  cases c with
  | false =>
    have CG := fun w' (h : Ats w' u l) (h' : Ats w' (.slice pv t.length cv) t) => change_good w' h h' hob he
    clear hl ht
    refine fn_own (N := _) Try.func26 rfl Try.ntmps26 Try.results26 (by simp) ?_
    simp only [initS, Nat.reduceAdd, Nat.zero_add]
    repeat' (first | (refine wlS ?_) | (refine wlB ?_) | (refine wlE ?_) | (refine efSvao ?_; intro v oa ho) | ((with_reducible refine sel_call ?_); first | (refine wl_newO rfl rfl rfl rfl rfl (fun w hm => by with_reducible exact CG w (VwT.out w hm) (VwT.out w hm)) ?_; intro x oa hx)) | (refine efBnn ?_; intro n hn) | (refine wl_skip rfl rfl ?_) | ((with_reducible refine wc_seq ?_); intro K hK) | (refine auC ?_) | (refine wc_cond rfl (fun hc => ?_) (fun hc => ?_)) | (refine wc_draw (by kernel_rfl) (by kernel_rfl) (by decide +kernel) ?_; intro w0 hw0 hm0; (try simp only [List.append_eq, List.cons_append, List.nil_append])) | (refine auP ?_) | ((refine auR ?_); clear hK K) | (refine auR ?_) | ((with_reducible refine hK _ _ ?_); clear hK K) | fail)
    first | refine end_ret (ResP.tmp rfl ResP.nil) ?_ | refine end_normal (ResP.tmp rfl ResP.nil) ?_
    (try dsimp only [tupV])
    exact ⟨_, _, rfl, hx, by
      repeat (first | exact SubL.nil | exact SubL.refl _ | refine SubL.keep ?_ | exact SubL.headA _ _ | refine SubL.keepA ?_ _ | refine SubL.skip ?_ | refine SubL.skipA ?_ _)⟩
  | true =>
    have CP := fun w' (h : Ats w' u l) (h' : Ats w' (.slice pv t.length cv) t) => copy_good w' h h' hob he
    by_cases hf : turnE (abs l) (abs t) false = 0
    · have CG := fun w' (h : Ats w' u l) (h' : Ats w' (.slice pv t.length cv) t) => change_good w' h h' hob hf
      clear hl ht
      refine fn_own (N := _) Try.func26 rfl Try.ntmps26 Try.results26 (by simp) ?_
      simp only [initS, Nat.reduceAdd, Nat.zero_add]
      repeat' (first | (refine wlS ?_) | (refine wlB ?_) | (refine wlE ?_) | (refine efSvao ?_; intro v oa ho) | ((with_reducible refine sel_call ?_); first | (refine wl_newO rfl rfl rfl rfl rfl (fun w hm => by with_reducible exact CG w (VwT.out w hm) (VwT.out w hm)) ?_; intro x oa hx) | (refine wl_newO rfl rfl rfl rfl rfl (fun w hm => by with_reducible exact CP w (VwT.out w hm) (VwT.out w hm)) ?_; intro x oa hx)) | (refine efBnn ?_; intro n hn) | (refine wl_skip rfl rfl ?_) | ((with_reducible refine wc_seq ?_); intro K hK) | (refine auC ?_) | (refine wc_cond rfl (fun hc => ?_) (fun hc => ?_)) | (refine wc_draw (by kernel_rfl) (by kernel_rfl) (by decide +kernel) ?_; intro w0 hw0 hm0; (try simp only [List.append_eq, List.cons_append, List.nil_append])) | (refine auP ?_) | ((refine auR ?_); clear hK K) | (refine auR ?_) | ((with_reducible refine hK _ _ ?_); clear hK K) | fail)
      first | refine end_ret (ResP.tmp rfl ResP.nil) ?_ | refine end_normal (ResP.tmp rfl ResP.nil) ?_
      (try dsimp only [tupV])
      exact ⟨_, _, rfl, hx, by
        repeat (first | exact SubL.nil | exact SubL.refl _ | refine SubL.keep ?_ | exact SubL.headA _ _ | refine SubL.keepA ?_ _ | refine SubL.skip ?_ | refine SubL.skipA ?_ _)⟩
    · have CB := fun w' (h : Ats w' u l) (h' : Ats w' (.slice pv t.length cv) t) => change_bad w' h h' hob hf
      clear hl ht
      generalize turnE (abs l) (abs t) false = e2 at *
      refine fn_own (N := _) Try.func26 rfl Try.ntmps26 Try.results26 (by simp) ?_
      simp only [initS, Nat.reduceAdd, Nat.zero_add]
      repeat' (first | (refine wlS ?_) | (refine wlB ?_) | ((with_reducible refine sel_call ?_); refine wl_rd rfl rfl (rd_call rfl rfl rfl (fun w hm => by with_reducible exact CB w (VwT.out w hm) (VwT.out w hm))) ?_) | (refine wlE ?_) | (refine efSvao ?_; intro v oa ho) | ((with_reducible refine sel_call ?_); first | (refine wl_newO rfl rfl rfl rfl rfl (fun w hm => by with_reducible exact CP w (VwT.out w hm) (VwT.out w hm)) ?_; intro x oa hx)) | (refine efBnn ?_; intro n hn) | (refine wl_skip rfl rfl ?_) | ((with_reducible refine wc_seq ?_); intro K hK) | (refine auC ?_) | (refine wc_cond rfl (fun hc => ?_) (fun hc => ?_)) | (refine wc_draw (by kernel_rfl) (by kernel_rfl) (by decide +kernel) ?_; intro w0 hw0 hm0; (try simp only [List.append_eq, List.cons_append, List.nil_append])) | (refine auP ?_) | ((refine auR ?_); clear hK K) | (refine auR ?_) | ((with_reducible refine hK _ _ ?_); clear hK K) | fail)
      first | refine end_ret (ResP.tmp rfl ResP.nil) ?_ | refine end_normal (ResP.tmp rfl ResP.nil) ?_
      (try dsimp only [tupV])
      exact ⟨_, _, rfl, hx, by
        repeat (first | exact SubL.nil | exact SubL.refl _ | refine SubL.keep ?_ | exact SubL.headA _ _ | refine SubL.keepA ?_ _ | refine SubL.skip ?_ | refine SubL.skipA ?_ _)⟩
/-! ### What came in -/
/-- A turning: copied?, the template. -/
abbrev Tun := Bool × Value × List Att
def tunC (x : Tun) : List Value := [.bool x.1, x.2.1]
def tunsC (l : List Tun) : List Value := (l.map tunC).flatten
theorem tunsC_get : ∀ {l : List Tun} {i : Nat} {x : Tun}, l[i]? = some x → ((tunsC l).drop (i * 2)).take 2 = [.bool x.1, x.2.1]
  | [], _, _, h => by simp at h
  | y :: r, 0, x, h => by
    simp only [List.getElem?_cons_zero, Option.some.injEq] at h
    subst h
    simp [tunsC, tunC]
  | y :: r, i + 1, x, h => by
    rw [List.getElem?_cons_succ] at h
    have ih := tunsC_get h
    rw [show (i + 1) * 2 = 2 + i * 2 by omega, ← List.drop_drop]
    have : (tunsC (y :: r)).drop 2 = tunsC r := by simp [tunsC, tunC]
    rw [this]
    exact ih
structure Tuns (w : World) (v : Value) (l : List Tun) : Prop where
  cs : Cs w v l.length (tunsC l)
  body : ∀ x ∈ l, Ats w x.2.1 x.2.2
end Go.Proofs.Ytlpalhagndmpjaa
