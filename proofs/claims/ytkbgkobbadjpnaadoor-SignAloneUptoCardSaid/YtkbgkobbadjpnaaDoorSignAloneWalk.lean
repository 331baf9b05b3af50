/- SignAlone: the walk. -/
import Derived.Test.YtkbgkobbadjpnaaDoorSignE
import Derived.Test.YtkbgkobbadjpnaaDoorSigns
import Derived.Test.YtkbgkobbadjpnaaDoorRecM
namespace Go.Proofs.YtkbgkobbadjpnaaDoor.SignAloneWalk
open Go.RowKit
attribute [local irreducible] rwA bys iw
set_option linter.unusedVariables false
set_option linter.unusedSimpArgs false
set_option maxRecDepth 100000
instance cells_sgG {k : Nat} {t s : Value} [h1 : One t] [h2 : One s] : Cells (rwA (sgG k t s)) 34 := ⟨rw_size (sgG_ok h1.out h2.out), rw_one (sgG_ok h1.out h2.out)⟩
set_option maxHeartbeats 16000000 in
theorem walk0 (w : World) (hT : Tab w) (k : Nat) (hk : k < T256) {v : Value} {n : Nat} {p : List Nat} (hq : Cb w v n p) (hn : n ≤ 1048576) {u : Value} {m : Nat} {sig : List Nat} (hs : Cb w u m sig) :
    Calls Tryd.prog 8 [.agg (bys (lb k)), v, u].toArray w (Ret (.bool true) w) := by
  obtain ⟨pv, cv, rfl, _⟩ := hq.cs.ln.out
  obtain ⟨pu, cu, rfl, _⟩ := hs.cs.ln.out
  have i1 := hq.old
  have i2 := hs.old
  haveI o1 : One (.slice pv n cv) := ⟨hq.oneC⟩
  haveI o2 : One (.slice pu m cu) := ⟨hs.oneC⟩
  have GC := signs_g w hT
  have BN : ∀ w'', Below w.heap.size w w'' → Calls Tryd.prog 26 [.slice none 0 0, .slice none 0 0].toArray w'' (Ret (.int .i64 0) w'') := fun w'' h => batch_nil w'' (hT.below h)
  obtain ⟨z, VE, BE⟩ := alone_E w hT k hk hq hn hs
  have q1 : (z == z) = true := by simp
  clear hT hq hs hk hn
  refine fn_ret (N := _) Tryd.func8 rfl Tryd.ntmps8 Tryd.results8 (by simp) ?_
  simp only [initS, Nat.reduceAdd, Nat.zero_add]
  repeat' (first | (refine wlS ?_) | (refine wlG ?_) | (refine wlB ?_) | (refine wlNL ?_) | ((with_reducible refine sel_call ?_); refine wl_rd rfl rfl (rd_call rfl rfl rfl (fun w hm => by with_reducible first | exact GC w (hm.below rfl) | exact BE w (hm.below rfl) (VwB.out w hm) (VwB.out w hm) (Vw.out w hm) (Vw.out w hm) | exact VE w (hm.below rfl) (VwB.out w hm) (VwB.out w hm) | exact BN w (hm.below rfl))) ?_) | (refine wlE ?_) | (refine efSvao ?_; intro v oa ho) | ((with_reducible refine sel_bslice ?_); first | (refine wl_bslice1 rfl rfl rfl rfl ?_; intro vv oa ho)) | (refine efBnn ?_; intro n hn) | (refine wl_skip rfl rfl ?_) | ((with_reducible refine wc_seq ?_); intro K hK) | (refine auC ?_) | (refine wc_cond rfl (fun hc => ?_) (fun hc => ?_)) | ((with_reducible refine wc_drawT (by kernel_rfl) ?_); (try simp only [List.append_eq, List.cons_append, List.nil_append, List.length_cons, List.length_nil, Nat.reduceAdd])) | ((with_reducible refine sel_wh ?_); first | (refine wh_take (lq := []) rfl rfl rfl rfl (by first | exact rvS | exact rvG | exact rvB | exact rvNL | exact rvE) (Or.inl rfl) ?_) | (refine wh_take rfl rfl rfl rfl (by first | exact rvS | exact rvG | exact rvB | exact rvNL | exact rvE) (Or.inr ⟨rfl, by decide +kernel⟩) ?_)) | (refine whS ?_; intro v hv hp) | ((with_reducible refine sel_wh ?_); first | (refine wh_pass rfl rfl rfl rfl ?_) | (refine wh_done rfl ?_) | (refine wh_all rfl ?_)) | ((with_reducible refine sel_rest ?_); first | exact rest_nil rfl | refine rest_cons rfl rfl ?_ ?_) | ((with_reducible refine sel_nx ?_); first | refine next_of ?_ | refine next_late (by decide +kernel) ?_) | (refine auP ?_) | ((refine auR ?_); clear hK K) | (refine auR ?_) | ((with_reducible refine hK _ _ ?_); clear hK K) | fail)
  all_goals (first | refine end_ret (ResP.tmp rfl ResP.nil) ?_ | refine end_normal (ResP.tmp rfl ResP.nil) ?_)
  all_goals (first | rfl | (show _ = _; rfl) | (simp only [tupV, *]; done))
theorem walk (w : World) (hT : Tab w) (k : Nat) (hk : k < T256) {v : Value} {n : Nat} {p : List Nat} (hq : Cb w v n p) {u : Value} {m : Nat} {sig : List Nat} (hs : Cb w u m sig) (hn : n ≤ 1048576) :
    Calls Tryd.prog 8 #[bv k, v, u] w (Ret (.bool true) w) := by
  rw [bv_lb]
  exact walk0 w hT k hk hq hn hs
end Go.Proofs.YtkbgkobbadjpnaaDoor.SignAloneWalk
