/- OpBack: the walk. -/
import Derived.Test.YtkendlnjaopbeaaGreatDoorOpR
namespace Go.Proofs.YtkendlnjaopbeaaGreatDoor.OpBackWalk
open Go.RowKit
attribute [local irreducible] rwA bys
set_option linter.unusedVariables false
set_option linter.unusedSimpArgs false
set_option maxRecDepth 100000
set_option maxHeartbeats 4000000 in
theorem walk (w : World) {kz : Value} {m : Nat} {p : List Nat} (h0 : Cb w kz m p) {u : Value} {iv : List Nat} (h1 : ArB 16 u iv) {v2 : Value} {k : Nat} {q : List Nat} (h2 : Cb w v2 k q) :
    Calls Tryz.prog 5 [kz, u, v2].toArray w (Ret (.bool true) w) := by
  have i0 := h0.old
  have i2 := h2.old
  obtain ⟨rfl, hil, hib⟩ := h1
  have hi := B16.of hil hib
  haveI : NBy iv 16 := ⟨hil⟩
  by_cases hk : k ≤ 2000
  · have t1 : decide ((k : Int) > 2000) = false := decide_eq_false (by omega)
    by_cases hm : m = 16 ∨ m = 24 ∨ m = 32
    · obtain ⟨n, rfl, hn⟩ := key_len hm
      have EX := fun w' (h : Cb w' kz (4 * n) p) => exp_c w' hn h
      haveI hkk : AKey (expW n p) := expW_ok h0.ok.len h0.ok.by' (by omega) (by omega)
      have hR : n + 6 ≤ 14 := by omega
      have ed := edok hkk.ok (n + 6)
      have hql := h2.ok.len
      have hqb := h2.ok.by'
      have hpl := padP_len q
      rw [hql] at hpl
      have hop := open_seal ed hi (padP_byl hqb) hpl
      have SE : ∀ w', Cb w' kz (4 * n) p → Cb w' v2 k q → Calls Tryz.prog 14 [.int .i64 7, kz, .agg (bys iv), v2].toArray w' _ := fun w' h h3 => run_se w' h hR hi EX h3 (by omega)
      have ST := fun w' (h : Cb w' kz (4 * n) p) (h3 : Cb w' v2 k q) => run_st w' h hR hi EX h3 (by omega)
      have ST2 : ∀ {u : Value} w', Cb w' kz (4 * n) p → Cb w' u k (strL (encL (expW n p) (n + 6)) iv 0 q) → Calls Tryz.prog 14 [.int .i64 6, kz, .agg (bys iv), u].toArray w' (RetO (fun v : Value => .tuple #[v, .int .i64 0]) (fun v oa => CsB (Hd oa) v k q) w') := fun w' h h3 => by
        have := run_st w' h hR hi EX h3 (by omega)
        rwa [strL_twice] at this
      have OB : ∀ {u : Value} w', Cb w' kz (4 * n) p → Cb w' u (16 * (k / 16 + 1)) (cflat (encL (expW n p) (n + 6)) iv (padP q) (k / 16 + 1)) → Calls Tryz.prog 14 [.int .i64 8, kz, .agg (bys iv), u].toArray w' _ :=
        fun w' h h3 => run_op w' h hR hi EX h3 (by omega) hql rfl hop
      have qq : (q == q) = true := by simp
      clear h0 h2 hm hn ed hkk hR EX hop hpl
      generalize 16 * (k / 16 + 1) = L at *
      generalize hC : cflat (encL (expW n p) (n + 6)) iv (padP q) (k / 16 + 1) = C at *
      generalize strL (encL (expW n p) (n + 6)) iv 0 q = Z at *
      clear hC
      refine fn_ret (N := _) Tryz.func5 rfl Tryz.ntmps5 Tryz.results5 (by simp) ?_
      simp only [initS, Nat.reduceAdd, Nat.zero_add]
      repeat' (first | (refine wlS ?_) | (refine wlG ?_) | (refine wlB ?_) | ((with_reducible refine sel_call ?_); refine wl_rd rfl rfl (rd_call rfl rfl rfl (fun w hm => by with_reducible exact beq_r w (VwB.out w hm) (VwB.out w hm) (by with_reducible assumption))) ?_) | (refine wlE ?_) | (refine efSvao ?_; intro v oa ho) | ((with_reducible refine sel_call ?_); first | (refine wl_newO rfl rfl rfl rfl rfl (fun w hm => by with_reducible exact SE w (VwB.out w hm) (VwB.out w hm)) ?_; intro x oa hx) | (refine wl_newO rfl rfl rfl rfl rfl (fun w hm => by with_reducible exact ST w (VwB.out w hm) (VwB.out w hm)) ?_; intro x oa hx) | (refine wl_newO rfl rfl rfl rfl rfl (fun w hm => by with_reducible exact OB w (VwB.out w hm) (VwB.out w hm)) ?_; intro x oa hx) | (refine wl_newO rfl rfl rfl rfl rfl (fun w hm => by with_reducible exact ST2 w (VwB.out w hm) (VwB.out w hm)) ?_; intro x oa hx)) | (refine efBnn ?_; intro n hn) | (refine wl_skip rfl rfl ?_) | ((with_reducible refine wc_seq ?_); intro K hK) | (refine auC ?_) | (refine wc_cond rfl (fun hc => ?_) (fun hc => ?_)) | (refine wc_draw (by kernel_rfl) (by kernel_rfl) (by decide +kernel) ?_; intro w0 hw0 hm0; (try simp only [List.append_eq, List.cons_append, List.nil_append])) | (refine auP ?_) | ((refine auR ?_); clear hK K) | (refine auR ?_) | ((with_reducible refine hK _ _ ?_); clear hK K) | fail)
      first | refine end_ret (ResP.tmp rfl ResP.nil) ?_ | refine end_normal (ResP.tmp rfl ResP.nil) ?_
      first | rfl | (show _ = _; rfl) | (simp only [tupV, *]; done)
    · have EX := fun w' (h : Cb w' kz m p) => exp_no w' hm h
      have RB : ∀ (kind : Int) (hk : 6 ≤ kind ∧ kind ≤ 8) w', Cb w' kz m p → Calls Tryz.prog 14 [.int .i64 kind, kz, .agg (bys iv), v2].toArray w' _ := fun kind hk w' h => run_bad w' hk h hi EX
      have RB6 := RB 6 (by decide)
      have RB7 := RB 7 (by decide)
      clear h0 RB
      refine fn_ret (N := _) Tryz.func5 rfl Tryz.ntmps5 Tryz.results5 (by simp) ?_
      simp only [initS, Nat.reduceAdd, Nat.zero_add]
      repeat' (first | (refine wlS ?_) | (refine wlG ?_) | (refine wlB ?_) | ((with_reducible refine sel_call ?_); refine wl_rd rfl rfl (rd_call rfl rfl rfl (fun w hm => by with_reducible first | exact RB7 w (VwB.out w hm) | exact RB6 w (VwB.out w hm))) ?_) | (refine wlE ?_) | (refine efSvao ?_; intro v oa ho) | (refine efBnn ?_; intro n hn) | (refine wl_skip rfl rfl ?_) | ((with_reducible refine wc_seq ?_); intro K hK) | (refine auC ?_) | (refine wc_cond rfl (fun hc => ?_) (fun hc => ?_)) | (refine wc_draw (by kernel_rfl) (by kernel_rfl) (by decide +kernel) ?_; intro w0 hw0 hm0; (try simp only [List.append_eq, List.cons_append, List.nil_append])) | (refine auP ?_) | ((refine auR ?_); clear hK K) | (refine auR ?_) | ((with_reducible refine hK _ _ ?_); clear hK K) | fail)
      first | refine end_ret (ResP.tmp rfl ResP.nil) ?_ | refine end_normal (ResP.tmp rfl ResP.nil) ?_
      first | rfl | (show _ = _; rfl) | (simp only [tupV, *]; done)
  · have t1 : decide ((k : Int) > 2000) = true := decide_eq_true (by omega)
    refine fn_ret (N := _) Tryz.func5 rfl Tryz.ntmps5 Tryz.results5 (by simp) ?_
    simp only [initS, Nat.reduceAdd, Nat.zero_add]
    repeat' (first | (refine wlS ?_) | (refine wlG ?_) | (refine wlB ?_) | (refine wlE ?_) | (refine efSvao ?_; intro v oa ho) | (refine efBnn ?_; intro n hn) | (refine wl_skip rfl rfl ?_) | ((with_reducible refine wc_seq ?_); intro K hK) | (refine auC ?_) | (refine wc_cond rfl (fun hc => ?_) (fun hc => ?_)) | (refine wc_draw (by kernel_rfl) (by kernel_rfl) (by decide +kernel) ?_; intro w0 hw0 hm0; (try simp only [List.append_eq, List.cons_append, List.nil_append])) | (refine auP ?_) | ((refine auR ?_); clear hK K) | (refine auR ?_) | ((with_reducible refine hK _ _ ?_); clear hK K) | fail)
    first | refine end_ret (ResP.tmp rfl ResP.nil) ?_ | refine end_normal (ResP.tmp rfl ResP.nil) ?_
    first | rfl | (show _ = _; rfl) | (simp only [tupV, *]; done)
end Go.Proofs.YtkendlnjaopbeaaGreatDoor.OpBackWalk
