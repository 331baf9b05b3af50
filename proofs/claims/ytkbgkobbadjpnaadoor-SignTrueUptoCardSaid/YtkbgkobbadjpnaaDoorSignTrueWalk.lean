/- SignTrue: the walk. -/
import Derived.Test.YtkbgkobbadjpnaaDoorSigns
namespace Go.Proofs.YtkbgkobbadjpnaaDoor.SignTrueWalk
open Go.RowKit
attribute [local irreducible] rwA bys iw
set_option linter.unusedVariables false
set_option linter.unusedSimpArgs false
set_option maxRecDepth 100000
set_option maxHeartbeats 16000000 in
theorem walk0 (w : World) (hT : Tab w) (seed : Nat) (hs : seed < T256) {v : Value} {n : Nat} {p : List Nat} (hq : Cb w v n p) (hn : n ≤ 1048576) :
    Calls Tryd.prog 5 [.agg (bys (lb seed)), v].toArray w (Ret (.bool true) w) := by
  have i1 := hq.old
  have GC := signs_g w hT
  have SC : ∀ w'', Below w.heap.size w w'' → Cb w'' v n p → Calls Tryd.prog 21 [.agg (bys (lb seed)), v].toArray w'' (Ret (.agg (bys (sigL seed p))) w'') := fun w'' h h2 => sign_c w hT w'' h seed hs h2 hn
  have NC : ∀ w'', Below w.heap.size w w'' → Calls Tryd.prog 14 [.agg (bys (lb seed))].toArray w'' (Ret (.agg (rwA (sgP (secS seed) (mskS seed) (lb (pubS seed))))) w'') := fun w'' h => new_s w hT w'' h seed hs
  have VC : ∀ {u : Value} w'', Below w.heap.size w w'' → Cb w'' v n p → Cb w'' u 64 (sigL seed p) → Calls Tryd.prog 13 [.agg (bys (lb (pubS seed))), v, u].toArray w'' (Ret (.int .i64 0) w'') := fun w'' h1 h2 h3 => by
    have := ver_c w hT w'' h1 (pubS seed) (basP (rS seed p)) (sS seed p) (basP_lt _) (basP_lt _) (sS_lt _ _) h2 hn h3
    rwa [sig_true] at this
  clear hT hq hs
  generalize secS seed = A at *
  generalize pubS seed = K' at *
  refine fn_ret (N := _) Tryd.func5 rfl Tryd.ntmps5 Tryd.results5 (by simp) ?_
  simp only [initS, Nat.reduceAdd, Nat.zero_add]
  repeat' (first | (refine wlS ?_) | (refine wlB ?_) | ((with_reducible refine sel_call ?_); refine wl_rd rfl rfl (rd_call rfl rfl rfl (fun w hm => by with_reducible first | exact GC w (hm.below rfl) | exact SC w (hm.below rfl) (VwB.out w hm) | exact NC w (hm.below rfl) | exact VC w (hm.below rfl) (VwB.out w hm) (VwB.out w hm))) ?_) | (refine wlE ?_) | (refine efSvao ?_; intro v oa ho) | (refine efBnn ?_; intro n hn) | (refine wl_skip rfl rfl ?_) | (refine wdS ?_) | (refine wdG ?_) | (refine wdV ?_) | (refine wdB ?_) | ((with_reducible refine seld_call ?_); refine wd_rd hm0 rfl rfl rfl rfl (rd_call rfl rfl rfl (fun w hm => by with_reducible first | exact GC w (hm.below rfl) | exact SC w (hm.below rfl) (VwB.out w hm) | exact NC w (hm.below rfl) | exact VC w (hm.below rfl) (VwB.out w hm) (VwB.out w hm))) ?_) | (refine wdE ?_) | (refine wd_allocC hm0 rfl rfl rfl ?_; intro n hn hn0) | (refine wd_alloc hm0 rfl rfl rfl ?_; intro n hn hn0) | (refine wdT ?_) | (refine wdTO ?_) | (refine wd_skip rfl rfl ?_) | ((with_reducible refine seld_nil ?_); refine wd_nil hm0 ?_; clear hm0 hw0) | ((with_reducible refine wc_seq ?_); intro K hK) | (refine auC ?_) | (refine wc_cond rfl (fun hc => ?_) (fun hc => ?_)) | (refine wc_draw (by kernel_rfl) (by kernel_rfl) (by decide +kernel) ?_; intro w0 hw0 hm0; (try simp only [List.append_eq, List.cons_append, List.nil_append])) | (refine auP ?_) | ((refine auR ?_); clear hK K) | (refine auR ?_) | ((with_reducible refine hK _ _ ?_); clear hK K) | fail)
  first | refine end_ret (ResP.tmp rfl ResP.nil) ?_ | refine end_normal (ResP.tmp rfl ResP.nil) ?_
  first | rfl | (show _ = _; rfl) | (simp only [tupV, *]; done)
theorem walk (w : World) (hT : Tab w) (seed : Nat) (hs : seed < T256) {v : Value} {n : Nat} {p : List Nat} (hq : Cb w v n p) (hn : n ≤ 1048576) :
    Calls Tryd.prog 5 #[bv seed, v] w (Ret (.bool true) w) := by
  rw [bv_lb]
  exact walk0 w hT seed hs hq hn
end Go.Proofs.YtkbgkobbadjpnaaDoor.SignTrueWalk
