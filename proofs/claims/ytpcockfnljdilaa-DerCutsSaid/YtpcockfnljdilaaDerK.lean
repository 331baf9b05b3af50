/- What the law's own helpers about items answer: sameItems, ders, bytes.HasPrefix. -/
import Derived.Test.YtpcockfnljdilaaDerWrite
import Derived.Test.YtpcockfnljdilaaBeq
namespace Go.Proofs.Ytpcockfnljdilaa
open Go.RowKit
set_option linter.unusedVariables false
set_option maxRecDepth 100000
set_option linter.unusedSimpArgs false
theorem isPre_iff {p q : List Nat} {n m : Nat} (hp : p.length = n) (hq : q.length = m) : q.isPrefixOf p = (if m ≤ n then (p.take m == q) else false) := by
  rw [Bool.eq_iff_iff, List.isPrefixOf_iff_prefix]
  split
  · rename_i h
    rw [beq_iff_eq, List.prefix_iff_eq_take, hq]
    exact ⟨fun h => h.symm, fun h => h.symm⟩
  · rename_i h
    constructor
    · intro hh; have := hh.length_le; omega
    · intro hh; cases hh
set_option maxHeartbeats 2000000 in
theorem ders_c (w : World) : Calls Try.prog 21 [].toArray w (Ret (.bool true) w) := by
  have C : ∀ w' v b, Cs w' v 1 [.int .u8 9, b] → Cb w' b 1 [7] → Calls Try.prog 18 [v].toArray w' (RetO (fun b => .tuple #[b, .int .i64 0]) (fun b oa => OwnB 5 b 3 [9, 1, 7] oa) w') := fun w' v b h1 h2 =>
    write_ok w' (l := [(9, b, [7])]) ⟨h1, by simp, by intro x hx; simp at hx; subst hx; exact h2⟩ ⟨by simp, by simp [It.p]⟩
  have t1 : ((3 : Nat) : Int) = 3 := rfl
  refine fn_ret (N := _) Try.func21 rfl Try.ntmps21 Try.results21 (by simp) ?_
  simp only [initS, Nat.reduceAdd, Nat.zero_add]
  repeat' (first | (with_reducible refine then_normal ?_) | ((with_reducible refine then_ret ?_); clear hK K) | ((with_reducible refine then_exit ?_); clear hK K) | (with_reducible refine then_exit ?_) | (with_reducible refine then_ret ?_) | (with_reducible refine inB_normal ?_) | (with_reducible refine inB_ret ?_) | (with_reducible refine inB_here ?_) | (with_reducible refine inB_out (by decide) ?_) | ((with_reducible refine hK _ _ ?_); clear hK K) | ((with_reducible refine sel_call ?_); first | (refine wl_appendB rfl rfl rfl rfl rfl ?_; intro v oa ho) | (refine wl_appendO rfl rfl rfl rfl rfl ?_; intro v oa ho) | (refine wl_newO rfl rfl rfl rfl rfl (fun w hm => by with_reducible exact C w _ _ (Vw.out w hm) (VwB.out w hm)) ?_; intro x oa hx) | refine wl_rd rfl rfl (RdV.rd (rd_lenO rfl rfl rfl rfl rfl)) ?_ | refine wl_rd rfl rfl (RdV.rd (rd_lenS rfl rfl rfl rfl rfl)) ?_) | ((with_reducible refine sel_bslice ?_); first | (refine wl_bsliceB rfl rfl rfl rfl ?_; intro v oa ho) | (refine wl_bslice rfl rfl rfl rfl ?_; intro v oa ho) | (refine wl_bsliceO rfl rfl rfl rfl ?_; intro v oa ho)) | ((with_reducible refine sel_build ?_); first | refine wl_rd rfl rfl (RdV.rd (rd_buildO rfl rfl rfl rfl rfl)) ?_ | refine wl_rd rfl rfl (RdV.rd (rd_buildA rfl rfl)) ?_ | refine wl_rd rfl rfl (RdV.rd (rd_buildS rfl rfl)) ?_) | ((with_reducible refine sel_b_eql ?_); first | refine wl_rd rfl rfl (RdV.rd (rd_eqlS rfl rfl rfl)) ?_ | refine wl_rd rfl rfl (RdV.rd (rd_cm rfl rfl rfl rfl)) ?_ | refine wl_rd rfl rfl (RdV.rd (rd_eqlB rfl rfl rfl (by first | with_reducible assumption | rfl))) ?_) | ((with_reducible refine sel_move ?_); first | refine wl_rd rfl rfl (RdV.rd (rd_move rfl rfl)) ?_) | ((with_reducible refine sel_assign ?_); first | refine wl_rd rfl rfl (RdV.rd (rd_assign rfl rfl)) ?_) | ((with_reducible refine sel_pick ?_); first | refine wl_rd rfl rfl (RdV.rd (rd_pick rfl rfl rfl rfl rfl)) ?_) | ((with_reducible refine sel_extract ?_); first | refine wl_rd rfl rfl (RdV.rd (rd_extract rfl rfl)) ?_) | (refine wl_skip rfl rfl ?_) | ((with_reducible refine wc_seq ?_); intro K hK) | ((with_reducible refine wc_region ?_); (try simp only [List.append_eq, List.cons_append, List.nil_append])) | (with_reducible refine wc_block ?_) | (with_reducible refine wc_skip ?_) | (with_reducible refine wc_exit ?_) | (with_reducible refine wc_ret ?_) | (with_reducible refine wc_label ?_) | ((with_reducible refine sel_cond ?_); first | refine wc_true rfl ?_ | refine wc_false rfl ?_ | refine wc_cond rfl (fun hc => ?_) (fun hc => ?_)) | (with_reducible refine wl_nil ?_))
  first | refine end_ret (ResP.tmp rfl ResP.nil) ?_ | refine end_normal (ResP.tmp rfl ResP.nil) ?_
  first | rfl | (show _ = _; rfl) | (simp only [tupV, *]; done)
/-- The same items. -/
def sameL (l m : List It) : Bool := itP l == itP m
end Go.Proofs.Ytpcockfnljdilaa
