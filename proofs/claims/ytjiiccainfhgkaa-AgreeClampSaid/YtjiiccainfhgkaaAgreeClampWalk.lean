/- AgreeClamp: the walk. -/
import Derived.Test.YtjiiccainfhgkaaAgree
import Derived.Test.YtjiiccainfhgkaaTwin
import Derived.Test.YtjiiccainfhgkaaNuAll
namespace Go.Proofs.Ytjiiccainfhgkaa.AgreeClampWalk
open Go.RowKit
set_option linter.unusedVariables false
set_option linter.unusedSimpArgs false
set_option maxRecDepth 8000
/-- The lowest three bits turned. -/
def flipA (k : Nat) : Nat := 8 * (k / 8) + (7 - k % 8)
/-- The two highest bits turned. -/
def flipB (k : Nat) : Nat := k % 2 ^ 254 + 2 ^ 254 * (3 - k / 2 ^ 254)
theorem xor_7 : ∀ b : Nat, b < 256 → bits .xor .u8 (b : Int) 7 = ((8 * (b / 8) + (7 - b % 8) : Nat) : Int) := by decide +kernel
theorem xor_192 : ∀ y : Nat, y < 64 → ∀ c : Nat, c < 4 → bits .xor .u8 ((y + 64 * c : Nat) : Int) 192 = ((y + 64 * (3 - c) : Nat) : Int) := by decide +kernel
theorem flipA_byte (k : Nat) : byteOf (flipA k) 0 = 8 * (byteOf k 0 / 8) + (7 - byteOf k 0 % 8) ∧ ∀ j, j < 32 → j ≠ 0 → byteOf k j = byteOf (flipA k) j := by
  constructor
  · unfold byteOf flipA
    rw [Nat.mul_zero, Nat.pow_zero, Nat.div_one, Nat.div_one]
    omega
  · intro j hj h0
    unfold byteOf flipA
    have e : 2 ^ (8 * j) = 8 * 2 ^ (8 * j - 3) := by
      rw [show (8 : Nat) = 2 ^ 3 from rfl, ← Nat.pow_add]; congr 1; omega
    rw [e, ← Nat.div_div_eq_div_mul, ← Nat.div_div_eq_div_mul, show (8 * (k / 8) + (7 - k % 8)) / 8 = k / 8 by omega]
theorem flipA_lt {k : Nat} (hk : k < T256) : flipA k < T256 := by
  have e : T256 = 8 * (T256 / 8) := by decide +kernel
  unfold flipA
  omega
theorem flipA_clamp (k : Nat) : clampA (flipA k) = clampA k := by
  unfold clampA flipA
  rw [show (8 * (k / 8) + (7 - k % 8)) / 8 = k / 8 by omega]
theorem flipB_lt (k : Nat) : flipB k < T256 := by
  have hy : k % 2 ^ 254 < 2 ^ 254 := Nat.mod_lt _ (by decide)
  rw [T256_eq, show (2 : Nat) ^ 256 = 2 ^ 254 * 4 by decide +kernel]
  unfold flipB
  have : 2 ^ 254 * (3 - k / 2 ^ 254) ≤ 2 ^ 254 * 3 := Nat.mul_le_mul_left _ (by omega)
  omega
theorem flipB_byte {m : Nat} (hm : m < T256) : bits .xor .u8 ((byteOf m 31 : Nat) : Int) 192 = ((byteOf (flipB m) 31 : Nat) : Int) ∧ ∀ j, j < 32 → j ≠ 31 → byteOf m j = byteOf (flipB m) j := by
  rw [T256_eq] at hm
  have hy : m % 2 ^ 254 < 2 ^ 254 := Nat.mod_lt _ (by decide)
  have hc : m / 2 ^ 254 < 4 := by
    rw [Nat.div_lt_iff_lt_mul (by decide)]
    rw [show 4 * (2 : Nat) ^ 254 = 2 ^ 256 by decide +kernel]
    exact hm
  have e : m = m % 2 ^ 254 + 2 ^ 254 * (m / 2 ^ 254) := (Nat.mod_add_div m (2 ^ 254)).symm
  obtain ⟨t1, t2⟩ := top254 (m % 2 ^ 254) (m / 2 ^ 254) hy
  obtain ⟨-, t3⟩ := top254 (m % 2 ^ 254) (3 - m / 2 ^ 254) hy
  rw [← e] at t2
  have o := xor_192 _ t1 _ hc
  refine ⟨?_, fun j hj hn => ?_⟩
  · show _ = ((byteOf (m % 2 ^ 254 + 2 ^ 254 * (3 - m / 2 ^ 254)) 31 : Nat) : Int)
    rw [t2, t3, Nat.mod_eq_of_lt (show m % 2 ^ 254 / 2 ^ 248 + 64 * (m / 2 ^ 254) < 256 by omega), Nat.mod_eq_of_lt (show m % 2 ^ 254 / 2 ^ 248 + 64 * (3 - m / 2 ^ 254) < 256 by omega)]
    exact o
  · have h1 := add254_byte (m % 2 ^ 254) (m / 2 ^ 254) j (by omega)
    have h2 := add254_byte (m % 2 ^ 254) (3 - m / 2 ^ 254) j (by omega)
    rw [← e] at h1
    rw [h1]
    exact h2.symm
theorem flipB_clamp (m : Nat) : clamp (flipB m) = clamp m := by
  unfold clamp clampA flipB
  have e : (2 : Nat) ^ 254 = 8 * 2 ^ 251 := by decide +kernel
  rw [e, Nat.mul_mod_mul_left, Nat.mul_mod_mul_left]
  have h1 : (m % (8 * 2 ^ 251) + 8 * 2 ^ 251 * (3 - m / (8 * 2 ^ 251))) / 8 % 2 ^ 251 = m / 8 % 2 ^ 251 := by
    rw [Nat.mul_assoc, Nat.add_mul_div_left _ _ (by decide), Nat.add_mul_mod_self_left, Nat.mod_mul_right_div_self, Nat.mod_mod]
  rw [h1]
theorem flipA_flipB_clamp (k : Nat) : clamp (flipB (flipA k)) = clamp k := by
  rw [flipB_clamp]
  unfold clamp
  rw [flipA_clamp]
theorem clamp_rem (k : Nat) : (limb (clamp k) 0).tmod 8 = 0 := by
  obtain ⟨j, h1, -, -⟩ := clamp_eight k
  rw [limb_lw, h1]
  unfold lw
  rw [Nat.mul_zero, Nat.pow_zero, Nat.div_one]
  have : 8 * j % 18446744073709551616 % 8 = 0 := by omega
  rw [Int.tmod_eq_emod_of_nonneg (by omega)]
  omega
set_option maxHeartbeats 8000000 in
theorem walk (a : Nat) (ha : a < T256) (p : Nat) (hp : p < T256) (w : World) :
    Calls Try.prog 9 #[bv a, bv p] w (Ret (.bool true) w) := by
  obtain ⟨v, hv⟩ : ∃ v, v = lad (clamp a) (upY p) := ⟨_, rfl⟩
  have CA := clamp_c a ha
  obtain ⟨f1, f2⟩ := flipA_byte a
  have gA := bytesC_get a 0 (by decide)
  have hxA := xor_7 _ (byteOf_lt a 0)
  have hputA := bytesC_put a (flipA a) 0 _ (by decide) f1.symm f2
  obtain ⟨f3, f4⟩ := flipB_byte (flipA_lt ha)
  have gB := bytesC_get (flipA a) 31 (by decide)
  have hputB := bytesC_put (flipA a) (flipB (flipA a)) 31 _ (by decide) rfl f4
  obtain ⟨f5, f6⟩ := turned_byte hp
  have gP := bytesC_get p 31 (by decide)
  have hputP := bytesC_put p (turned p) 31 _ (by decide) rfl f6
  have S1 := shared_c a p v ha hp hv
  have S2 := shared_c (flipB (flipA a)) (turned p) v (flipB_lt _) (turned_lt p) (by rw [flipA_flipB_clamp, turned_Y]; exact hv)
  have CO := clamp_c (flipB (flipA a)) (flipB_lt _)
  rw [flipA_flipB_clamp] at CO
  have LN := len_nu (clamp a) (clamp_lt a)
  rw [clamp_len] at LN
  have BC := bytes_bv (clamp a) (clamp_lt a)
  have CC := clamp_c (clamp a) (clamp_lt a)
  rw [clamp_clamp] at CC
  have PA := public_c a ha
  have PO := public_c (flipB (flipA a)) (flipB_lt _)
  rw [flipA_flipB_clamp] at PO
  have hrem := clamp_rem a
  have hl : v < T256 := by rw [hv]; exact lad_lt _ _
  have q1 := eq_same (clamp_lt a)
  have q2 := fun w => eql_bv (lad (clamp a) 9) (lad (clamp a) 9) (lad_lt _ _) (lad_lt _ _) w
  rw [decide_eq_true rfl] at q2
  have q3 := fun w => eql_bv v v hl hl w
  rw [decide_eq_true rfl] at q3
  have g0 := (numC_get (clamp a) 0 (by decide))
  have z255 : (((255 : Nat) : Int) == 255) = true := rfl
  have z0 : ((0 : Int) == 0) = true := rfl
  have ze : ∀ e : Int, (e == e) = true := fun e => beq_self_eq_true e
  clear f1 f2 f4 f6 hv ha hp hl
  generalize (if v = 0 then (1 : Int) else 0) = e at *
  have ze := ze e
  generalize flipB (flipA a) = o at *
  generalize flipA a = m at *
  generalize turned p = t at *
  generalize lad (clamp a) 9 = x at *
  generalize clamp a = c at *
  refine fn_ret (N := _) Try.func9 rfl Try.ntmps9 Try.results9 (by simp) ?_
  simp only [initS, Nat.reduceAdd, Nat.zero_add]
  repeat' (first | (with_reducible refine then_normal ?_) | ((with_reducible refine then_ret ?_); clear hK K) | ((with_reducible refine then_exit ?_); clear hK K) | (with_reducible refine then_exit ?_) | (with_reducible refine then_ret ?_) | (with_reducible refine inB_normal ?_) | (with_reducible refine inB_ret ?_) | (with_reducible refine inB_here ?_) | (with_reducible refine inB_out (by decide) ?_) | ((with_reducible refine hK _ _ ?_); clear hK K) | ((with_reducible refine sel_move ?_); first | refine wl_rd rfl rfl (RdV.rd (rd_move rfl rfl)) ?_) | ((with_reducible refine sel_assign ?_); first | refine wl_rd rfl rfl (RdV.rd (rd_assign rfl rfl)) ?_) | ((with_reducible refine sel_extract ?_); first | refine wl_rd rfl rfl (RdV.rd (rd_extract rfl rfl)) ?_) | ((with_reducible refine sel_b_xor ?_); first | refine wl_rd rfl rfl (RdV.rd (rd_bw rfl rfl rfl rfl)) ?_) | ((with_reducible refine sel_load ?_); first | refine wl_rd rfl rfl (RdV.rd (rd_load rfl rfl (ld_whole))) ?_ | refine wl_rd rfl rfl (RdV.rd (rd_load rfl rfl (ld_cell))) ?_ | refine wl_rd rfl rfl (RdV.rd (rd_load rfl rfl (ld_row))) ?_) | ((with_reducible refine sel_indexA ?_); first | refine wl_rd rfl rfl (RdV.rd (rd_ixA rfl rfl rfl)) ?_ | refine wl_rd rfl rfl (RdV.rd (rd_ixS rfl rfl rfl)) ?_) | ((with_reducible refine sel_alloc ?_); first | (refine wl_new rfl rfl (mk_allocC rfl) ?_; intro n hn) | (refine wl_new rfl rfl (mk_alloc rfl) ?_; intro n hn)) | ((with_reducible refine sel_call ?_); first | refine wl_rd rfl rfl (rd_call rfl rfl rfl (fun w _ => by with_reducible exact CA w)) ?_ | refine wl_rd rfl rfl (rd_call rfl rfl rfl (fun w _ => by with_reducible exact S1 w)) ?_ | refine wl_rd rfl rfl (rd_call rfl rfl rfl (fun w _ => by with_reducible exact S2 w)) ?_ | refine wl_rd rfl rfl (rd_call rfl rfl rfl (fun w _ => by with_reducible exact CO w)) ?_ | refine wl_rd rfl rfl (rd_call rfl rfl rfl (fun w _ => by with_reducible exact LN w)) ?_ | refine wl_rd rfl rfl (rd_call rfl rfl rfl (fun w _ => by with_reducible exact BC w)) ?_ | refine wl_rd rfl rfl (rd_call rfl rfl rfl (fun w _ => by with_reducible exact CC w)) ?_ | refine wl_rd rfl rfl (rd_call rfl rfl rfl (fun w _ => by with_reducible exact PA w)) ?_ | refine wl_rd rfl rfl (rd_call rfl rfl rfl (fun w _ => by with_reducible exact PO w)) ?_ | refine wl_rd rfl rfl (RdV.rd (rd_lenS rfl rfl rfl rfl rfl)) ?_) | ((with_reducible refine sel_box ?_); first | (refine wl_new rfl rfl (mk_box rfl rfl) ?_; intro n hn)) | ((with_reducible refine sel_store ?_); first | refine wl_store rfl rfl (sv_whole rfl rfl rfl) ?_ | refine wl_store rfl rfl (sv_cell rfl rfl rfl rfl) ?_ | refine wl_store rfl rfl (sv_row rfl rfl rfl rfl) ?_) | (refine wl_skip rfl rfl ?_) | ((with_reducible refine seld_pick ?_); first | refine wd_rd hm0 rfl rfl rfl rfl (RdV.rd (rd_pick rfl rfl rfl rfl rfl)) ?_) | ((with_reducible refine seld_b_eql ?_); first | refine wd_rd hm0 rfl rfl rfl rfl (RdV.rd (rd_cm rfl rfl rfl rfl)) ?_ | refine wd_rd hm0 rfl rfl rfl rfl (RdV.rd (rd_eqlB rfl rfl rfl (by first | with_reducible assumption | rfl))) ?_ | refine wd_rd hm0 rfl rfl rfl rfl (RdV.rd (rd_eqlV rfl rfl rfl (by with_reducible exact q1))) ?_ | refine wd_rd hm0 rfl rfl rfl rfl (RdV.rd (rd_eqlV rfl rfl rfl (by with_reducible exact q2))) ?_ | refine wd_rd hm0 rfl rfl rfl rfl (RdV.rd (rd_eqlV rfl rfl rfl (by with_reducible exact q3))) ?_) | ((with_reducible refine seld_b_rem ?_); first | refine wd_rd hm0 rfl rfl rfl rfl (RdV.rd (rd_rem rfl rfl rfl)) ?_) | ((with_reducible refine seld_load ?_); first | refine wd_rd hm0 rfl rfl rfl rfl (RdV.rd (rd_load rfl rfl (ld_whole))) ?_ | refine wd_rd hm0 rfl rfl rfl rfl (RdV.rd (rd_load rfl rfl (ld_cell))) ?_ | refine wd_rd hm0 rfl rfl rfl rfl (RdV.rd (rd_load rfl rfl (ld_row))) ?_) | ((with_reducible refine seld_indexA ?_); first | refine wd_rd hm0 rfl rfl rfl rfl (RdV.rd (rd_ixA rfl rfl rfl)) ?_ | refine wd_rd hm0 rfl rfl rfl rfl (RdV.rd (rd_ixS rfl rfl rfl)) ?_) | ((with_reducible refine seld_call ?_); first | refine wd_rd hm0 rfl rfl rfl rfl (rd_call rfl rfl rfl (fun w _ => by with_reducible exact CA w)) ?_ | refine wd_rd hm0 rfl rfl rfl rfl (rd_call rfl rfl rfl (fun w _ => by with_reducible exact S1 w)) ?_ | refine wd_rd hm0 rfl rfl rfl rfl (rd_call rfl rfl rfl (fun w _ => by with_reducible exact S2 w)) ?_ | refine wd_rd hm0 rfl rfl rfl rfl (rd_call rfl rfl rfl (fun w _ => by with_reducible exact CO w)) ?_ | refine wd_rd hm0 rfl rfl rfl rfl (rd_call rfl rfl rfl (fun w _ => by with_reducible exact LN w)) ?_ | refine wd_rd hm0 rfl rfl rfl rfl (rd_call rfl rfl rfl (fun w _ => by with_reducible exact BC w)) ?_ | refine wd_rd hm0 rfl rfl rfl rfl (rd_call rfl rfl rfl (fun w _ => by with_reducible exact CC w)) ?_ | refine wd_rd hm0 rfl rfl rfl rfl (rd_call rfl rfl rfl (fun w _ => by with_reducible exact PA w)) ?_ | refine wd_rd hm0 rfl rfl rfl rfl (rd_call rfl rfl rfl (fun w _ => by with_reducible exact PO w)) ?_ | refine wd_rd hm0 rfl rfl rfl rfl (RdV.rd (rd_lenS rfl rfl rfl rfl rfl)) ?_) | ((with_reducible refine seld_move ?_); first | refine wd_move rfl rfl rfl rfl ?_) | ((with_reducible refine seld_assign ?_); first | refine wd_assign rfl rfl rfl rfl ?_) | (refine wd_skip rfl rfl ?_) | ((with_reducible refine seld_nil ?_); refine wd_nil hm0 ?_; clear hm0 hw0) | ((with_reducible refine wc_seq ?_); intro K hK) | ((with_reducible refine wc_region ?_); (try simp only [List.append_eq, List.cons_append, List.nil_append])) | (with_reducible refine wc_block ?_) | (with_reducible refine wc_skip ?_) | (with_reducible refine wc_exit ?_) | (with_reducible refine wc_ret ?_) | (with_reducible refine wc_label ?_) | ((with_reducible refine sel_cond ?_); first | refine wc_true rfl ?_ | refine wc_false rfl ?_ | refine wc_cond rfl (fun hc => ?_) (fun hc => ?_)) | (with_reducible refine wl_nil ?_) | (refine wc_draw (by kernel_rfl) (by kernel_rfl) (by decide +kernel) ?_; intro w0 hw0 hm0; (try simp only [List.append_eq, List.cons_append, List.nil_append])))
  first | refine end_ret (ResP.tmp rfl ResP.nil) ?_ | refine end_normal (ResP.tmp rfl ResP.nil) ?_
  first | rfl | (show _ = _; rfl)
end Go.Proofs.Ytjiiccainfhgkaa.AgreeClampWalk
