/- sealringkeep.signs, walked. -/
import Derived.Test.YtkbgkobbadjpnaaDoorSignV
namespace Go.Proofs.YtkbgkobbadjpnaaDoor
open Go.RowKit
attribute [local irreducible] rwA bys iw
set_option linter.unusedVariables false
set_option linter.unusedSimpArgs false
set_option maxRecDepth 100000
theorem lb_zero : lb 0 = List.replicate 32 0 := by decide +kernel
theorem eql_bys64 {a b : List Nat} (ha : a.length = 64) (hb : b.length = 64) {r : Bool} (hr : (a == b) = r) (w : World) :
    (Op.equalIn 10000 43 (.agg (bys a)) (.agg (bys b))).run Tryd.prog w = .ok r w := by
  have h := eql_ints (P := Tryd.prog) (t := 43) (e := 5) (k := .u8) (k' := .u8) w 9998 64 (a.map fun k : Nat => (k : Int)) (b.map fun k : Nat => (k : Int)) (by kernel_rfl) (by kernel_rfl) (by kernel_rfl) (by kernel_rfl) (by kernel_rfl) (by simp [ha]) (by simp [hb])
  rw [← bys_Z, ← bys_Z] at h
  rw [← hr]
  have e : ((a.map fun k : Nat => (k : Int)) == (b.map fun k : Nat => (k : Int))) = (a == b) := by
    rw [Bool.eq_iff_iff, beq_iff_eq, beq_iff_eq]
    constructor
    · intro h
      exact (List.map_inj_right (fun x y h => Int.ofNat.inj h)).1 h
    · intro h; rw [h]
  rw [e] at h
  exact h
set_option maxHeartbeats 8000000 in
theorem signs_g (w : World) (hT : Tab w) (w' : World) (hb : Below w.heap.size w w') : Calls Tryd.prog 20 [].toArray w' (Ret (.bool true) w') := by
  have hT' := hT.below hb
  have SC : ∀ w'', Below w'.heap.size w' w'' → Calls Tryd.prog 21 [.agg (bys (lb 0)), .slice none 0 0].toArray w'' (Ret (.agg (bys (sigL 0 []))) w'') := fun w'' h => sign_c w' hT' w'' h 0 (by decide) (cb_nil w'') (by decide)
  have NC : ∀ w'', Below w'.heap.size w' w'' → Calls Tryd.prog 14 [.agg (bys (lb 0))].toArray w'' (Ret (.agg (rwA (sgP (secS 0) (mskS 0) (lb (pubS 0))))) w'') := fun w'' h => new_s w' hT' w'' h 0 (by decide)
  have VC : ∀ {u : Value} w'', Below w'.heap.size w' w'' → Cb w'' u 64 (sigL 0 []) → Calls Tryd.prog 13 [.agg (bys (lb (pubS 0))), .slice none 0 0, u].toArray w'' (Ret (.int .i64 0) w'') := fun w'' h1 h2 => by
    have := ver_c w' hT' w'' h1 (pubS 0) (basP (rS 0 [])) (sS 0 []) (basP_lt _) (basP_lt _) (sS_lt _ _) (cb_nil w'') (by decide) h2
    rwa [sig_true] at this
  have z32 : Value.agg (bys (lb 0)) = .agg (List.replicate 32 (Value.int .u8 0)).toArray := by rw [lb_zero, bys_Z]; rfl
  simp only [z32] at SC NC
  have z64 : Value.agg (bys (List.replicate 64 0)) = .agg (List.replicate 64 (Value.int .u8 0)).toArray := by rw [bys_Z]; rfl
  have q1 := eql_bys64 (NBy.out (l := sigL 0 [])) (List.length_replicate ..) (sigL_ne 0 [])
  simp only [z64] at q1
  clear hT hb hT'
  generalize secS 0 = A at *
  generalize pubS 0 = K' at *
  refine fn_ret (N := _) Tryd.func20 rfl Tryd.ntmps20 Tryd.results20 (by simp) ?_
  simp only [initS, Nat.reduceAdd, Nat.zero_add]
  repeat' (first | (refine wlS ?_) | (refine wlG ?_) | (refine wlBZ ?_) | (refine wlB ?_) | ((with_reducible refine sel_call ?_); refine wl_rd rfl rfl (rd_call rfl rfl rfl (fun w hm => by with_reducible first | exact SC w (hm.below rfl) | exact NC w (hm.below rfl) | exact VC w (hm.below rfl) (VwB.out w hm))) ?_) | (refine wlE ?_) | (refine efSvao ?_; intro v oa ho) | (refine efG ?_) | (refine efGnn ?_; intro n hn) | (refine efZCnn ?_; intro n hn) | (refine efBnn ?_; intro n hn) | (refine efB ?_) | (refine efBS ?_) | (refine wl_skip rfl rfl ?_) | (refine wdS ?_) | (refine wdG ?_) | (refine wdBZ ?_) | (refine wdV ?_) | (refine wdB ?_) | ((with_reducible refine seld_b_eql ?_); refine wdv hm0 rfl rfl rfl rfl (rd_eqlV rfl rfl rfl (by with_reducible exact q1)) ?_) | ((with_reducible refine seld_b_neq ?_); refine wdv hm0 rfl rfl rfl rfl (rd_neqV rfl rfl rfl (by with_reducible exact q1)) ?_) | ((with_reducible refine seld_call ?_); refine wd_rd hm0 rfl rfl rfl rfl (rd_call rfl rfl rfl (fun w hm => by with_reducible first | exact SC w (hm.below rfl) | exact NC w (hm.below rfl) | exact VC w (hm.below rfl) (VwB.out w hm))) ?_) | (refine wdE ?_) | (refine wd_skip rfl rfl ?_) | ((with_reducible refine seld_nil ?_); refine wd_nil hm0 ?_; clear hm0 hw0) | ((with_reducible refine wc_seq ?_); intro K hK) | (refine auC ?_) | (refine wc_cond rfl (fun hc => ?_) (fun hc => ?_)) | (refine wc_draw (by kernel_rfl) (by kernel_rfl) (by decide +kernel) ?_; intro w0 hw0 hm0; (try simp only [List.append_eq, List.cons_append, List.nil_append])) | (refine auP ?_) | ((refine auR ?_); clear hK K) | (refine auR ?_) | ((with_reducible refine hK _ _ ?_); clear hK K) | fail)
  first | refine end_ret (ResP.tmp rfl ResP.nil) ?_ | refine end_normal (ResP.tmp rfl ResP.nil) ?_
  first | rfl | (show _ = _; rfl) | (simp only [tupV, *]; done)
end Go.Proofs.YtkbgkobbadjpnaaDoor
