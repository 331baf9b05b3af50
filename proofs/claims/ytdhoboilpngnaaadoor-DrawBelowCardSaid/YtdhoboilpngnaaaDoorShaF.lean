/- The package hash, walked: Sum of bytes; equality of 32 bytes. -/
import Derived.Test.YtdhoboilpngnaaaDoorShaE
import Derived.Test.YtdhoboilpngnaaaDoorOpen
namespace Go.Proofs.YtdhoboilpngnaaaDoor
open Go.RowKit
set_option linter.unusedVariables false
set_option linter.unusedSimpArgs false
instance {p : List Nat} : NBy (dig p) 32 := ⟨dig_len p⟩
instance : HSo newH := ⟨newH_ok⟩
theorem bys_Z (p : List Nat) : bys p = ((p.map fun k : Nat => (k : Int)).map (Value.int .u8)).toArray := by simp [bys, bl]
theorem eql_bys {a b : List Nat} (ha : a.length = 32) (hb : b.length = 32) {r : Bool} (hr : (a == b) = r) (w : World) :
    (Op.equalIn 10000 30 (.agg (bys a)) (.agg (bys b))).run Tryd.prog w = .ok r w := by
  have h := eql_ints (P := Tryd.prog) (t := 30) (e := 5) (k := .u8) (k' := .u8) w 9998 32 (a.map fun k : Nat => (k : Int)) (b.map fun k : Nat => (k : Int)) (by kernel_rfl) (by kernel_rfl) (by kernel_rfl) (by kernel_rfl) (by kernel_rfl) (by simp [ha]) (by simp [hb])
  rw [← bys_Z, ← bys_Z] at h
  rw [← hr]
  have e : ((a.map fun k : Nat => (k : Int)) == (b.map fun k : Nat => (k : Int))) = (a == b) := by
    rw [Bool.eq_iff_iff, beq_iff_eq, beq_iff_eq]
    constructor
    · intro h
      exact (List.map_inj_right (fun x y h => Int.ofNat.inj h)).1 h
    · intro h; rw [h]
  rw [e] at h
  exact h
set_option maxRecDepth 100000 in
set_option maxHeartbeats 4000000 in
theorem dig_c (w : World) (hT : Tab w) {v : Value} {m : Nat} {p : List Nat} (hp : Cb w v m p) : Calls Tryd.prog 27 [v].toArray w (Ret (.agg (bys (dig p))) w) := by
  haveI := hp.old
  have N1 := new_c
  have W1 : ∀ w', Below w.heap.size w w' → Calls Tryd.prog 49 [hv newH, v].toArray w' (Ret (hv (newH.write p)) w') := fun w' hb => write_c w' (hT.below hb) newH_ok (hp.below hb)
  have S1 : ∀ w', Below w.heap.size w w' → Calls Tryd.prog 50 [hv (newH.write p)].toArray w' (Ret (.agg (bys (dig p))) w') := fun w' hb => sum_c w' (hT.below hb) (HS.write_ok hp.ok.by' newH_ok)
  clear hp hT
  refine fn_ret (N := _) Tryd.func27 rfl Tryd.ntmps27 Tryd.results27 (by simp) ?_
  simp only [initS, Nat.reduceAdd, Nat.zero_add]
  repeat' (first | (with_reducible refine then_normal ?_) | ((with_reducible refine then_ret ?_); clear hK K) | ((with_reducible refine then_exit ?_); clear hK K) | (with_reducible refine then_exit ?_) | (with_reducible refine then_ret ?_) | (with_reducible refine inB_normal ?_) | (with_reducible refine inB_ret ?_) | (with_reducible refine inB_here ?_) | (with_reducible refine inB_out (by decide) ?_) | ((with_reducible refine hK _ _ ?_); clear hK K) | ((with_reducible refine sel_call ?_); first | (refine wl_appendB rfl rfl rfl rfl rfl ?_; intro v oa ho) | (refine wl_appendO rfl rfl rfl rfl rfl ?_; intro v oa ho) | refine wl_rd rfl rfl (rd_call rfl rfl rfl (fun w _ => by with_reducible exact N1 w)) ?_ | refine wl_rd rfl rfl (rd_call rfl rfl rfl (fun w hm => by with_reducible exact W1 w (hm.below rfl))) ?_ | refine wl_rd rfl rfl (rd_call rfl rfl rfl (fun w hm => by with_reducible exact S1 w (hm.below rfl))) ?_ | refine wl_rd rfl rfl (RdV.rd (rd_lenO rfl rfl rfl rfl rfl)) ?_ | refine wl_rd rfl rfl (RdV.rd (rd_lenS rfl rfl rfl rfl rfl)) ?_) | ((with_reducible refine sel_store ?_); first | refine wl_store rfl rfl (sv_wholeG rfl rfl rfl) ?_ | refine wl_store rfl rfl (sv_sg rfl rfl rfl) ?_ | refine wl_store rfl rfl (sv_sg1 rfl rfl rfl) ?_ | refine wl_store rfl rfl (sv_whole rfl rfl rfl) ?_ | refine wl_store rfl rfl (sv_cell rfl rfl rfl rfl) ?_ | refine wl_store rfl rfl (sv_row rfl rfl rfl rfl) ?_ | refine wl_store rfl rfl (sv_cell rfl rfl rfl One.out) ?_ | refine wl_store rfl rfl (sv_row rfl rfl rfl (by simp only [List.all_cons, List.all_nil, One.out, Bool.and_true])) ?_) | ((with_reducible refine sel_alloc ?_); first | (refine wl_new rfl rfl (mk_allocG rfl) ?_; intro n hn) | (refine wl_new rfl rfl (mk_allocC rfl) ?_; intro n hn) | (refine wl_new rfl rfl (mk_alloc rfl) ?_; intro n hn)) | ((with_reducible refine sel_move ?_); first | refine wl_rd rfl rfl (RdV.rd (rd_move rfl rfl)) ?_) | (refine wl_skip rfl rfl ?_) | ((with_reducible refine wc_seq ?_); intro K hK) | ((with_reducible refine wc_region ?_); (try simp only [List.append_eq, List.cons_append, List.nil_append])) | (with_reducible refine wc_block ?_) | (with_reducible refine wc_skip ?_) | (with_reducible refine wc_exit ?_) | (with_reducible refine wc_ret ?_) | (with_reducible refine wc_label ?_) | ((with_reducible refine sel_cond ?_); first | refine wc_true rfl ?_ | refine wc_false rfl ?_ | refine wc_cond rfl (fun hc => ?_) (fun hc => ?_)) | (with_reducible refine wl_nil ?_))
  first | refine end_ret (ResP.cell rfl ld_whole ResP.nil) ?_ | refine end_normal (ResP.cell rfl ld_whole ResP.nil) ?_
  first | rfl | (show _ = _; rfl) | (simp only [tupV, *]; done)
theorem cb_nil (w : World) : Cb w (.slice none 0 0) 0 [] := (CsB.nil).cs.out w (by intro p hp; cases hp) |> fun h => ⟨h, BL.nil⟩
theorem dig_nil0 : (dig []).getD 0 0 = 227 := by decide +kernel
theorem dig_nil31 : (dig []).getD 31 0 = 85 := by decide +kernel
end Go.Proofs.YtdhoboilpngnaaaDoor
