/- HashPads: the walk. -/
import Derived.Test.YtlglmfmbndpefaaPad
import Derived.Test.YtlglmfmbndpefaaBeq
namespace Go.Proofs.Ytlglmfmbndpefaa.HashPadsWalk
open Go.RowKit
set_option linter.unusedVariables false
set_option linter.unusedSimpArgs false
theorem padTail_eq (n : Nat) : padTail n = [8 * n % 18446744073709551616 / 2 ^ 56 % 256, 8 * n % 18446744073709551616 / 2 ^ 48 % 256, 8 * n % 18446744073709551616 / 2 ^ 40 % 256, 8 * n % 18446744073709551616 / 2 ^ 32 % 256, 8 * n % 18446744073709551616 / 2 ^ 24 % 256, 8 * n % 18446744073709551616 / 2 ^ 16 % 256, 8 * n % 18446744073709551616 / 2 ^ 8 % 256, 8 * n % 18446744073709551616 / 2 ^ 0 % 256] := rfl
theorem shr_byte {x y k : Nat} (h : x / 2 ^ k % 256 = y / 2 ^ k % 256) (h' : x / 2 ^ (k + 8) = y / 2 ^ (k + 8)) : x / 2 ^ k = y / 2 ^ k := by
  rw [Nat.pow_add, ← Nat.div_div_eq_div_mul, ← Nat.div_div_eq_div_mul] at h'
  generalize x / 2 ^ k = a at *
  generalize y / 2 ^ k = b at *
  have e : (2 : Nat) ^ 8 = 256 := rfl
  rw [e] at h'
  omega
/-- The tail tells how many. -/
theorem padTail_inj {n m : Nat} (hn : n < 2305843009213693952) (hm : m < 2305843009213693952) (h : padTail n = padTail m) : n = m := by
  rw [padTail_eq, padTail_eq] at h
  simp only [List.cons.injEq, and_true] at h
  obtain ⟨h7, h6, h5, h4, h3, h2, h1, h0⟩ := h
  rw [Nat.mod_eq_of_lt (show 8 * n < 18446744073709551616 by omega), Nat.mod_eq_of_lt (show 8 * m < 18446744073709551616 by omega)] at *
  have z : 8 * n / 2 ^ (56 + 8) = 8 * m / 2 ^ (56 + 8) := by rw [Nat.div_eq_of_lt (by omega), Nat.div_eq_of_lt (by omega)]
  have := shr_byte h0 (shr_byte h1 (shr_byte h2 (shr_byte h3 (shr_byte h4 (shr_byte h5 (shr_byte h6 (shr_byte h7 z)))))))
  simp only [Nat.pow_zero, Nat.div_one] at this
  omega
theorem len_pad (n : Nat) : (n + (padK n + 9)) % 64 = 0 := by unfold padK; omega
/-- No two texts become one by theirs. -/
theorem pads {n m : Nat} {p q : List Nat} (hp : p.length = n) (hq : q.length = m) (hn : n < 2305843009213693952) (hm : m < 2305843009213693952) (h : p ++ padL n = q ++ padL m) : p = q := by
  have e : ∀ (p : List Nat) n, p ++ padL n = (p ++ 128 :: List.replicate (padK n) 0) ++ padTail n := fun p n => by simp [padL]
  rw [e, e] at h
  have h2 := (List.append_inj' h rfl).2
  have h3 := padTail_inj hn hm h2
  subst h3
  have h1 := (List.append_inj' h rfl).1
  exact (List.append_inj h1 (by rw [hp, hq])).1
set_option maxHeartbeats 4000000 in
theorem walk (w : World) {v u : Value} {n m : Nat} {p q : List Nat} (hv : Cb w v n p) (hu : Cb w u m q) (hn : n ≤ 1048576) (hm : m ≤ 1048576) :
    Calls Try.prog 3 [v, u].toArray w (Ret (.bool true) w) := by
  haveI := hv.old
  haveI := hu.old
  have C1 := fun w => pad_c n (by omega) w
  have C2 := fun w => pad_c m (by omega) w
  have l1 := len_pad n
  have l2 := len_pad m
  have k1 := padK_lt n
  have k2 := padK_lt m
  have t1 : (((n : Int) + ((padK n + 9 : Nat) : Int)) % 64 != 0) = false := by rw [bne_eq_false_iff_eq]; omega
  have t2 : decide (((padK n + 9 : Nat) : Int) < 9) = false := decide_eq_false (by omega)
  have t3 : decide (((padK n + 9 : Nat) : Int) > 72) = false := decide_eq_false (by omega)
  have hx : (bl (padL n))[0]? = some (.int .u8 128) := rfl
  have hf : ((([] ++ p) ++ padL n == ([] ++ q) ++ padL m) == (p == q)) = true := by
    rw [beq_iff_eq, Bool.eq_iff_iff, beq_iff_eq, beq_iff_eq]
    refine ⟨pads hv.ok.len hu.ok.len (by omega) (by omega), fun h => ?_⟩
    subst h
    have := hv.ok.len.symm.trans hu.ok.len
    subst this; rfl
  refine fn_ret (N := _) Try.func3 rfl Try.ntmps3 Try.results3 (by simp) ?_
  simp only [initS, Nat.reduceAdd, Nat.zero_add]
  repeat' (first | (with_reducible refine then_normal ?_) | ((with_reducible refine then_ret ?_); clear hK K) | ((with_reducible refine then_exit ?_); clear hK K) | (with_reducible refine then_exit ?_) | (with_reducible refine then_ret ?_) | (with_reducible refine inB_normal ?_) | (with_reducible refine inB_ret ?_) | (with_reducible refine inB_here ?_) | (with_reducible refine inB_out (by decide) ?_) | ((with_reducible refine hK _ _ ?_); clear hK K) | ((with_reducible refine sel_indexA ?_); first | refine wl_rd rfl rfl (RdV.rd (rd_ixO rfl rfl rfl)) ?_ | refine wl_rd rfl rfl (RdV.rd (rd_ixA rfl rfl rfl)) ?_ | refine wl_rd rfl rfl (RdV.rd (rd_ixS rfl rfl rfl)) ?_) | ((with_reducible refine sel_load ?_); first | refine wl_rd rfl rfl (RdV.rd (rd_load rfl rfl ld_O)) ?_ | refine wl_rd rfl rfl (RdV.rd (rd_load rfl rfl ld_OR)) ?_ | refine wl_rd rfl rfl (RdV.rd (rd_load rfl rfl (ld_whole))) ?_ | refine wl_rd rfl rfl (RdV.rd (rd_load rfl rfl (ld_cell))) ?_ | refine wl_rd rfl rfl (RdV.rd (rd_load rfl rfl (ld_row))) ?_) | ((with_reducible refine sel_call ?_); first | (refine wl_appendB rfl rfl rfl rfl rfl ?_; intro v oa ho) | (refine wl_appendO rfl rfl rfl rfl rfl ?_; intro v oa ho) | refine wl_rd rfl rfl (RdV.rd (rd_lenO rfl rfl rfl rfl rfl)) ?_ | (refine wl_newO rfl rfl rfl rfl rfl (fun w hm => by with_reducible exact C1 w) ?_; intro x oa hx) | (refine wl_newO rfl rfl rfl rfl rfl (fun w hm => by with_reducible exact C2 w) ?_; intro x oa hx) | refine wl_rd rfl rfl (rd_call rfl rfl rfl (fun w hm => by with_reducible exact beq_c w (VwB.out w hm) (VwB.out w hm))) ?_ | refine wl_rd rfl rfl (RdV.rd (rd_lenS rfl rfl rfl rfl rfl)) ?_) | ((with_reducible refine sel_conv ?_); first | refine wl_rd rfl rfl (RdV.rd (rd_convS rfl rfl)) ?_ | refine wl_rd rfl rfl (RdV.rd (rd_conv rfl rfl)) ?_) | ((with_reducible refine sel_b_eql ?_); first | refine wl_rd rfl rfl (RdV.rd (rd_eqlS rfl rfl rfl)) ?_ | refine wl_rd rfl rfl (RdV.rd (rd_cm rfl rfl rfl rfl)) ?_ | refine wl_rd rfl rfl (RdV.rd (rd_eqlB rfl rfl rfl (by first | with_reducible assumption | rfl))) ?_) | ((with_reducible refine sel_move ?_); first | refine wl_rd rfl rfl (RdV.rd (rd_move rfl rfl)) ?_) | ((with_reducible refine sel_assign ?_); first | refine wl_rd rfl rfl (RdV.rd (rd_assign rfl rfl)) ?_) | ((with_reducible refine sel_pick ?_); first | refine wl_rd rfl rfl (RdV.rd (rd_pick rfl rfl rfl rfl rfl)) ?_) | ((with_reducible refine sel_b_lss ?_); first | refine wl_rd rfl rfl (RdV.rd (rd_cm rfl rfl rfl rfl)) ?_) | ((with_reducible refine sel_b_gtr ?_); first | refine wl_rd rfl rfl (RdV.rd (rd_cm rfl rfl rfl rfl)) ?_) | ((with_reducible refine sel_b_neq ?_); first | refine wl_rd rfl rfl (RdV.rd (rd_cm rfl rfl rfl rfl)) ?_) | ((with_reducible refine sel_b_add ?_); first | refine wl_rd rfl rfl (RdV.rd (rd_ar rfl rfl rfl rfl)) ?_) | ((with_reducible refine sel_b_rem ?_); first | refine wl_rd rfl rfl (RdV.rd (rd_rem rfl rfl rfl)) ?_) | (refine wl_skip rfl rfl ?_) | ((with_reducible refine wc_seq ?_); intro K hK) | ((with_reducible refine wc_region ?_); (try simp only [List.append_eq, List.cons_append, List.nil_append])) | (with_reducible refine wc_block ?_) | (with_reducible refine wc_skip ?_) | (with_reducible refine wc_exit ?_) | (with_reducible refine wc_ret ?_) | (with_reducible refine wc_label ?_) | ((with_reducible refine sel_cond ?_); first | refine wc_true rfl ?_ | refine wc_false rfl ?_ | refine wc_cond rfl (fun hc => ?_) (fun hc => ?_)) | (with_reducible refine wl_nil ?_))
  trace_state
  first | refine end_ret (ResP.tmp rfl ResP.nil) ?_ | refine end_normal (ResP.tmp rfl ResP.nil) ?_
  first | rfl | (show _ = _; rfl)
end Go.Proofs.Ytlglmfmbndpefaa.HashPadsWalk
