/- SignPairs: the walk. -/
import Derived.Test.YtkbgkobbadjpnaaDoorSignV
namespace Go.Proofs.YtkbgkobbadjpnaaDoor.SignPairsWalk
open Go.RowKit
attribute [local irreducible] rwA bys iw
set_option linter.unusedVariables false
set_option linter.unusedSimpArgs false
set_option maxRecDepth 100000
set_option maxHeartbeats 16000000 in
theorem walk0 (w : World) (hT : Tab w) (seed : Nat) (hs : seed < T256) {v : Value} {n : Nat} {p : List Nat} (hq : Cb w v n p) (hn : n ≤ 1048576) {u : Value} {m : Nat} {sig : List Nat} (hsig : Cb w u m sig) :
    Calls Tryd.prog 4 [.agg (bys (lb seed)), v, u].toArray w (Ret (.bool true) w) := by
  have i1 := hq.old
  have i2 := hsig.old
  have NC : ∀ w'', Below w.heap.size w w'' → Calls Tryd.prog 14 [.agg (bys (lb seed))].toArray w'' (Ret (.agg (rwA (sgP (secS seed) (mskS seed) (lb (pubS seed))))) w'') := fun w'' h => new_s w hT w'' h seed hs
  have BC := base_c
  have TC := times_k (secS seed) (secS_lt _) base_on
  have PC := pack_on (times_on base_on (secS seed))
  rw [bv_lb, show (Pt.base.times (secS seed)).pack = pubS seed from rfl] at PC
  have q1 := eql_bys (lb_len (pubS seed)) (lb_len (pubS seed)) (r := true) (by simp)
  have h0 : secS seed ≠ 0 := atl_ne _
  have d1 := decide_eq_false h0
  have LC := l_c
  have CC := cmp_nu (secS seed) SLn (secS_lt _) SL_T
  have s3 : decide (cmpI (secS seed) SLn < 0) = true := decide_eq_true (by have := secS_L seed; unfold cmpI; rw [if_pos (by omega)]; decide)
  have b1 : ((0 : Int) == 0) = true := rfl
  have b2 : ((1 : Int) == 1) = true := rfl
  have aT := secS_lt seed
  have zT : 0 < T256 := by decide
  clear hT hq hs h0
  generalize cmpI (secS seed) SLn = cz at *
  generalize SLn = sl at *
  generalize Pt.base.times (secS seed) = P1 at *
  generalize Pt.base = B at *
  generalize secS seed = A at *
  generalize pubS seed = K' at *
  by_cases hm : m = 64
  · subst hm
    have b3 : ((64 : Int) == 64) = true := rfl
    clear hsig
    refine fn_ret (N := _) Tryd.func4 rfl Tryd.ntmps4 Tryd.results4 (by simp) ?_
    simp only [initS, Nat.reduceAdd, Nat.zero_add]
    repeat' (first | (refine wlS ?_) | (refine wlG ?_) | (refine wlR ?_) | (refine wlB ?_) | ((with_reducible refine sel_call ?_); refine wl_rd rfl rfl (rd_call rfl rfl rfl (fun w hm => by with_reducible first | exact NC w (hm.below rfl) | exact BC w | exact TC w | exact PC w | exact LC w | exact CC w)) ?_) | (refine wlE ?_) | (refine efSvao ?_; intro v oa ho) | (refine efG ?_) | (refine efGnn ?_; intro n hn) | (refine efR ?_) | (refine efZCnn ?_; intro n hn) | (refine efBnn ?_; intro n hn) | (refine efB ?_) | (refine efBS ?_) | (refine wl_skip rfl rfl ?_) | (refine wdS ?_) | (refine wdG ?_) | (refine wdR ?_) | (refine wdV ?_) | (refine wdB ?_) | (refine wdNL ?_) | ((with_reducible refine seld_b_eql ?_); refine wdv hm0 rfl rfl rfl rfl (rd_eqlV rfl rfl rfl (by with_reducible exact q1)) ?_) | ((with_reducible refine seld_b_neq ?_); refine wdv hm0 rfl rfl rfl rfl (rd_neqV rfl rfl rfl (by with_reducible exact q1)) ?_) | (refine wdEQ ?_) | ((with_reducible refine seld_call ?_); refine wd_rd hm0 rfl rfl rfl rfl (rd_call rfl rfl rfl (fun w hm => by with_reducible first | exact NC w (hm.below rfl) | exact BC w | exact TC w | exact PC w | exact LC w | exact CC w)) ?_) | (refine wdE ?_) | (refine wd_allocC hm0 rfl rfl rfl ?_; intro n hn hn0) | (refine wd_alloc hm0 rfl rfl rfl ?_; intro n hn hn0) | (refine wdT ?_) | (refine wdTO ?_) | (refine wd_skip rfl rfl ?_) | ((with_reducible refine seld_nil ?_); refine wd_nil hm0 ?_; clear hm0 hw0) | ((with_reducible refine wc_seq ?_); intro K hK) | (refine auC ?_) | (refine wc_cond rfl (fun hc => ?_) (fun hc => ?_)) | (refine wc_draw (by kernel_rfl) (by kernel_rfl) (by decide +kernel) ?_; intro w0 hw0 hm0; (try simp only [List.append_eq, List.cons_append, List.nil_append])) | (refine auP ?_) | ((refine auR ?_); clear hK K) | (refine auR ?_) | ((with_reducible refine hK _ _ ?_); clear hK K) | fail)
    first | refine end_ret (ResP.tmp rfl ResP.nil) ?_ | refine end_normal (ResP.tmp rfl ResP.nil) ?_
    first | rfl | (show _ = _; rfl) | (simp only [tupV, *]; done)
  · have b3 : ((m : Int) == 64) = false := by rw [beq_eq_false_iff_ne]; omega
    have VC : ∀ w'', Cb w'' u m sig → Calls Tryd.prog 13 [.agg (bys (lb K')), v, u].toArray w'' (Ret (.int .i64 1) w'') := fun w'' h => ver_len w'' K' h hm
    clear hsig
    refine fn_ret (N := _) Tryd.func4 rfl Tryd.ntmps4 Tryd.results4 (by simp) ?_
    simp only [initS, Nat.reduceAdd, Nat.zero_add]
    repeat' (first | (refine wlS ?_) | (refine wlG ?_) | (refine wlR ?_) | (refine wlB ?_) | ((with_reducible refine sel_call ?_); refine wl_rd rfl rfl (rd_call rfl rfl rfl (fun w hm => by with_reducible first | exact NC w (hm.below rfl) | exact BC w | exact TC w | exact PC w | exact LC w | exact CC w | exact VC w (VwB.out w hm))) ?_) | (refine wlE ?_) | (refine efSvao ?_; intro v oa ho) | (refine efG ?_) | (refine efGnn ?_; intro n hn) | (refine efR ?_) | (refine efZCnn ?_; intro n hn) | (refine efBnn ?_; intro n hn) | (refine efB ?_) | (refine efBS ?_) | (refine wl_skip rfl rfl ?_) | (refine wdS ?_) | (refine wdG ?_) | (refine wdR ?_) | (refine wdV ?_) | (refine wdB ?_) | (refine wdNL ?_) | ((with_reducible refine seld_b_eql ?_); refine wdv hm0 rfl rfl rfl rfl (rd_eqlV rfl rfl rfl (by with_reducible exact q1)) ?_) | ((with_reducible refine seld_b_neq ?_); refine wdv hm0 rfl rfl rfl rfl (rd_neqV rfl rfl rfl (by with_reducible exact q1)) ?_) | (refine wdEQ ?_) | ((with_reducible refine seld_call ?_); refine wd_rd hm0 rfl rfl rfl rfl (rd_call rfl rfl rfl (fun w hm => by with_reducible first | exact NC w (hm.below rfl) | exact BC w | exact TC w | exact PC w | exact LC w | exact CC w | exact VC w (VwB.out w hm))) ?_) | (refine wdE ?_) | (refine wd_allocC hm0 rfl rfl rfl ?_; intro n hn hn0) | (refine wd_alloc hm0 rfl rfl rfl ?_; intro n hn hn0) | (refine wdT ?_) | (refine wdTO ?_) | (refine wd_skip rfl rfl ?_) | ((with_reducible refine seld_nil ?_); refine wd_nil hm0 ?_; clear hm0 hw0) | ((with_reducible refine wc_seq ?_); intro K hK) | (refine auC ?_) | (refine wc_cond rfl (fun hc => ?_) (fun hc => ?_)) | (refine wc_draw (by kernel_rfl) (by kernel_rfl) (by decide +kernel) ?_; intro w0 hw0 hm0; (try simp only [List.append_eq, List.cons_append, List.nil_append])) | (refine auP ?_) | ((refine auR ?_); clear hK K) | (refine auR ?_) | ((with_reducible refine hK _ _ ?_); clear hK K) | fail)
    first | refine end_ret (ResP.tmp rfl ResP.nil) ?_ | refine end_normal (ResP.tmp rfl ResP.nil) ?_
    first | rfl | (show _ = _; rfl) | (simp only [tupV, *]; done)
theorem walk (w : World) (hT : Tab w) (seed : Nat) (hs : seed < T256) {v : Value} {n : Nat} {p : List Nat} (hq : Cb w v n p) {u : Value} {m : Nat} {sig : List Nat} (hsig : Cb w u m sig) (hn : n ≤ 1048576) :
    Calls Tryd.prog 4 #[bv seed, v, u] w (Ret (.bool true) w) := by
  rw [bv_lb]
  exact walk0 w hT seed hs hq hn hsig
end Go.Proofs.YtkbgkobbadjpnaaDoor.SignPairsWalk
