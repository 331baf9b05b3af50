/- The package mode, walked: plus. -/
import Derived.Test.YtdmmbkhnhfcmcaaAesX
import Derived.Test.YtdmmbkhnhfcmcaaModePlain
namespace Go.Proofs.Ytdmmbkhnhfcmcaa
open Go.RowKit
attribute [local irreducible] rwA bys
set_option linter.unusedVariables false
set_option linter.unusedSimpArgs false
set_option maxRecDepth 100000
theorem and255 {a : Nat} (ha : a < 18446744073709551616) : bits .and .u64 (a : Int) 255 = ((a % 256 : Nat) : Int) := by
  have h1 : (BitVec.ofInt 64 (a : Int)).toNat = a := by
    rw [BitVec.ofInt_natCast, BitVec.toNat_ofNat]; exact Nat.mod_eq_of_lt (by omega)
  have h2 : (BitVec.ofInt 64 255).toNat = 255 := rfl
  show IntKind.u64.wrap ((BitVec.ofInt 64 (a : Int) &&& BitVec.ofInt 64 255).toNat : Int) = _
  rw [BitVec.toNat_and, h1, h2, show (255 : Nat) = 2 ^ 8 - 1 from rfl, Nat.and_two_pow_sub_one_eq_mod]
  exact wrap_u64 _ (by omega) (by omega)
set_option maxHeartbeats 2000000 in
theorem mplus_c (w' : World) {iv : List Nat} {d : Nat} (hb : B16 iv) (hn : d < 18446744073709551616) : Calls Try.prog 36 [.agg (bys iv), .int .u64 (d : Int)].toArray w' (Ret (.agg (bys (plusL iv d))) w') := by
  haveI : NBy iv 16 := ⟨hb.len⟩
  have hok := ivS_ok hb d
  have h16 : plusL iv d = (ivS iv d 16).1 := rfl
  rw [h16]
  refine fn_ret (N := _) Try.func36 rfl Try.ntmps36 Try.results36 (by simp) ?_
  simp only [initS, Nat.reduceAdd, Nat.zero_add]
  repeat' (first | (with_reducible refine then_normal ?_) | ((with_reducible refine then_ret ?_); clear hK K) | ((with_reducible refine then_exit ?_); clear hK K) | (with_reducible refine then_exit ?_) | (with_reducible refine then_ret ?_) | (with_reducible refine inB_normal ?_) | (with_reducible refine inB_ret ?_) | (with_reducible refine inB_here ?_) | (with_reducible refine inB_out (by decide) ?_) | ((with_reducible refine hK _ _ ?_); clear hK K) | ((with_reducible refine sel_indexA ?_); first | refine wl_rd rfl rfl (RdV.rd (rd_ixO rfl rfl rfl)) ?_ | refine wl_rd rfl rfl (RdV.rd (rd_ixA rfl rfl rfl)) ?_ | refine wl_rd rfl rfl (RdV.rd (rd_ixS rfl rfl rfl)) ?_) | ((with_reducible refine sel_load ?_); first | refine wl_rd rfl rfl (RdV.rd (rd_load rfl rfl ld_O)) ?_ | refine wl_rd rfl rfl (RdV.rd (rd_load rfl rfl ld_OR)) ?_ | refine wl_rd rfl rfl (RdV.rd (rd_load rfl rfl (ld_whole))) ?_ | refine wl_rd rfl rfl (RdV.rd (rd_load rfl rfl (ld_cell))) ?_ | refine wl_rd rfl rfl (RdV.rd (rd_load rfl rfl (ld_row))) ?_) | ((with_reducible refine sel_conv ?_); first | refine wl_rd rfl rfl (RdV.rd (rd_convS rfl rfl)) ?_ | refine wl_rd rfl rfl (RdV.rd (rd_conv rfl rfl)) ?_) | ((with_reducible refine sel_move ?_); first | refine wl_rd rfl rfl (RdV.rd (rd_move rfl rfl)) ?_) | ((with_reducible refine sel_assign ?_); first | refine wl_rd rfl rfl (RdV.rd (rd_assign rfl rfl)) ?_) | ((with_reducible refine sel_b_geq ?_); first | refine wl_rd rfl rfl (RdV.rd (rd_cm rfl rfl rfl rfl)) ?_) | ((with_reducible refine sel_b_add ?_); first | refine wl_rd rfl rfl (RdV.rd (rd_ar rfl rfl rfl rfl)) ?_) | ((with_reducible refine sel_b_sub ?_); first | refine wl_rd rfl rfl (RdV.rd (rd_ar rfl rfl rfl rfl)) ?_) | ((with_reducible refine sel_b_and ?_); first | refine wl_rd rfl rfl (RdV.rd (rd_bw rfl rfl rfl rfl)) ?_) | ((with_reducible refine sel_b_shr ?_); first | refine wl_rd rfl rfl (RdV.rd (rd_shr rfl rfl rfl)) ?_) | ((with_reducible refine sel_alloc ?_); first | (refine wl_new rfl rfl (mk_allocC rfl) ?_; intro n hn) | (refine wl_new rfl rfl (mk_alloc rfl) ?_; intro n hn)) | ((with_reducible refine sel_box ?_); first | (refine wl_new rfl rfl (mk_box rfl rfl) ?_; intro n hn)) | ((with_reducible refine sel_store ?_); first | refine wl_store rfl rfl (sv_whole rfl rfl rfl) ?_ | refine wl_store rfl rfl (sv_cell rfl rfl rfl rfl) ?_ | refine wl_store rfl rfl (sv_row rfl rfl rfl rfl) ?_ | refine wl_store rfl rfl (sv_cell rfl rfl rfl One.out) ?_ | refine wl_store rfl rfl (sv_row rfl rfl rfl (by simp only [List.all_cons, List.all_nil, One.out, Bool.and_true])) ?_) | (refine wl_skip rfl rfl ?_) | ((with_reducible refine wc_seq ?_); intro K hK) | ((with_reducible refine wc_region ?_); (try simp only [List.append_eq, List.cons_append, List.nil_append])) | (with_reducible refine wc_block ?_) | (with_reducible refine wc_skip ?_) | (with_reducible refine wc_exit ?_) | (with_reducible refine wc_ret ?_) | (with_reducible refine wc_label ?_) | ((with_reducible refine sel_cond ?_); first | refine wc_true rfl ?_ | refine wc_false rfl ?_ | refine wc_cond rfl (fun hc => ?_) (fun hc => ?_)) | (with_reducible refine wl_nil ?_))
  rename_i n2 hn2
  obtain ⟨n4, rfl⟩ : ∃ n4, n4 = n := ⟨n, rfl⟩
  refine wc_loop (σ := Nat) (fun k => [(1, .int .u64 ((ivS iv d k).2.2 : Int)), (2, ptr n2), (4, ptr n4), (5, .int .u64 ((ivS iv d k).2.1 : Int)), (6, .int .i64 (15 - (k : Int)))])
    (fun k => [(n4, (bys (List.replicate 16 0), 34)), (n2, (bys (ivS iv d k).1, 34))])
    (fun k => k ≤ 16) (fun k => 16 - k) 0 (Nat.zero_le _) (Fits.of ⟨rfl, rfl, rfl, rfl, rfl, trivial⟩ (SubL.refl _) rfl) ?_
  intro k hk
  obtain ⟨o1, o2, o3⟩ := hok k
  haveI : NBy (ivS iv d k).1 16 := ⟨o1.len⟩
  by_cases hlt : k < 16
  · have st : ivS iv d (k + 1) = ((ivS iv d k).1.set (15 - k) (((ivS iv d k).2.1 + ((ivS iv d k).1.getD (15 - k) 0 + (ivS iv d k).2.2 % 256)) % 256),
      ((ivS iv d k).2.1 + ((ivS iv d k).1.getD (15 - k) 0 + (ivS iv d k).2.2 % 256)) / 256, (ivS iv d k).2.2 / 256) := rfl
    have hb1 := o1.lt (15 - k)
    have gv := bys_get (l := (ivS iv d k).1) (i := 15 - k) (by rw [o1.len]; omega)
    have s1 : (ivS iv d (k + 1)).1 = _ := congrArg (·.1) st
    have s2 : (ivS iv d (k + 1)).2.1 = _ := congrArg (·.2.1) st
    have s3 : (ivS iv d (k + 1)).2.2 = _ := congrArg (·.2.2) st
    dsimp only at s1 s2 s3
    clear st hok
    generalize hB : (ivS iv d k).1.getD (15 - k) 0 = b at *
    generalize hC : (ivS iv d k).2.1 = c at *
    generalize hM : (ivS iv d k).2.2 = m at *
    have hi : 15 - (k : Int) = ((15 - k : Nat) : Int) := by omega
    have e0 : decide (((15 - k : Nat) : Int) ≥ 0) = true := decide_eq_true (by omega)
    have e1 : IntKind.u64.wrap (b : Int) = (b : Int) := wrap_u64 _ (by omega) (by omega)
    have e2 := and255 (a := m) (by omega)
    have hm8 : m % 256 < 256 := Nat.mod_lt _ (by decide)
    have e3 : IntKind.u64.wrap ((b : Int) + ((m % 256 : Nat) : Int)) = ((b + m % 256 : Nat) : Int) := by rw [wrap_u64 _ (by omega) (by omega)]; omega
    have e4 : IntKind.u64.wrap ((c : Int) + ((b + m % 256 : Nat) : Int)) = ((c + (b + m % 256) : Nat) : Int) := by rw [wrap_u64 _ (by omega) (by omega)]; omega
    have e5 : IntKind.u8.wrap ((c + (b + m % 256) : Nat) : Int) = (((c + (b + m % 256)) % 256 : Nat) : Int) := by
      simp only [IntKind.wrap, IntKind.bits, IntKind.signed]; simp
    have e6 : ((c + (b + m % 256) : Nat) : Int) / 2 ^ min ((8 : Int).toNat) (IntKind.bits .u64) = (((c + (b + m % 256)) / 256 : Nat) : Int) := by
      show ((c + (b + m % 256) : Nat) : Int) / 256 = _; omega
    have e7 : (m : Int) / 2 ^ min ((8 : Int).toNat) (IntKind.bits .u64) = ((m / 256 : Nat) : Int) := by
      show (m : Int) / 256 = _; omega
    have e8 : IntKind.i64.wrap (((15 - k : Nat) : Int) - 1) = 15 - ((k + 1 : Nat) : Int) := by rw [wrap_i64 _ (by omega) (by omega)]; omega
    have j1 : ((15 - k : Nat) : Int) < ((16 : Nat) : Int) := by omega
    rw [hi]
    repeat' (first | (with_reducible refine then_normal ?_) | ((with_reducible refine then_ret ?_); clear hK K) | ((with_reducible refine then_exit ?_); clear hK K) | (with_reducible refine then_exit ?_) | (with_reducible refine then_ret ?_) | (with_reducible refine inB_normal ?_) | (with_reducible refine inB_ret ?_) | (with_reducible refine inB_here ?_) | (with_reducible refine inB_out (by decide) ?_) | ((with_reducible refine hK _ _ ?_); clear hK K) | ((with_reducible refine sel_indexA ?_); first | refine wl_rd rfl rfl (RdV.rd (rd_ixO rfl rfl rfl)) ?_ | refine wl_rd rfl rfl (RdV.rd (rd_ixA rfl rfl rfl)) ?_ | refine wl_rd rfl rfl (RdV.rd (rd_ixS rfl rfl rfl)) ?_) | ((with_reducible refine sel_load ?_); first | refine wl_rd rfl rfl (RdV.rd (rd_load rfl rfl ld_O)) ?_ | refine wl_rd rfl rfl (RdV.rd (rd_load rfl rfl ld_OR)) ?_ | refine wl_rd rfl rfl (RdV.rd (rd_load rfl rfl (ld_whole))) ?_ | refine wl_rd rfl rfl (RdV.rd (rd_load rfl rfl (ld_cell))) ?_ | refine wl_rd rfl rfl (RdV.rd (rd_load rfl rfl (ld_row))) ?_) | ((with_reducible refine sel_conv ?_); first | refine wl_rd rfl rfl (RdV.rd (rd_convS rfl rfl)) ?_ | refine wl_rd rfl rfl (RdV.rd (rd_conv rfl rfl)) ?_) | ((with_reducible refine sel_move ?_); first | refine wl_rd rfl rfl (RdV.rd (rd_move rfl rfl)) ?_) | ((with_reducible refine sel_assign ?_); first | refine wl_rd rfl rfl (RdV.rd (rd_assign rfl rfl)) ?_) | ((with_reducible refine sel_b_geq ?_); first | refine wl_rd rfl rfl (RdV.rd (rd_cm rfl rfl rfl rfl)) ?_) | ((with_reducible refine sel_b_add ?_); first | refine wl_rd rfl rfl (RdV.rd (rd_ar rfl rfl rfl rfl)) ?_) | ((with_reducible refine sel_b_sub ?_); first | refine wl_rd rfl rfl (RdV.rd (rd_ar rfl rfl rfl rfl)) ?_) | ((with_reducible refine sel_b_and ?_); first | refine wl_rd rfl rfl (RdV.rd (rd_bw rfl rfl rfl rfl)) ?_) | ((with_reducible refine sel_b_shr ?_); first | refine wl_rd rfl rfl (RdV.rd (rd_shr rfl rfl rfl)) ?_) | ((with_reducible refine sel_alloc ?_); first | (refine wl_new rfl rfl (mk_alloc rfl) ?_; intro n hn)) | ((with_reducible refine sel_box ?_); first | (refine wl_new rfl rfl (mk_box rfl rfl) ?_; intro n hn)) | ((with_reducible refine sel_store ?_); first | refine wl_store rfl rfl (sv_whole rfl rfl rfl) ?_ | refine wl_store rfl rfl (sv_cell rfl rfl rfl rfl) ?_ | refine wl_store rfl rfl (sv_row rfl rfl rfl rfl) ?_ | refine wl_store rfl rfl (sv_cell rfl rfl rfl One.out) ?_ | refine wl_store rfl rfl (sv_row rfl rfl rfl (by simp only [List.all_cons, List.all_nil, One.out, Bool.and_true])) ?_) | (refine wl_skip rfl rfl ?_) | ((with_reducible refine wc_seq ?_); intro K hK) | ((with_reducible refine wc_region ?_); (try simp only [List.append_eq, List.cons_append, List.nil_append])) | (with_reducible refine wc_block ?_) | (with_reducible refine wc_skip ?_) | (with_reducible refine wc_exit ?_) | (with_reducible refine wc_ret ?_) | (with_reducible refine wc_label ?_) | ((with_reducible refine sel_cond ?_); first | refine wc_true rfl ?_ | refine wc_false rfl ?_ | refine wc_cond rfl (fun hc => ?_) (fun hc => ?_)) | (with_reducible refine wl_nil ?_))
    exact ⟨k + 1, hlt, by omega, Fits.of ⟨by rw [s3]; rfl, rfl, rfl, by rw [s2]; rfl, rfl, trivial⟩ (by rw [s1]; exact SubL.refl _) rfl⟩
  · obtain rfl : k = 16 := by omega
    have e0 : decide (15 - ((16 : Nat) : Int) ≥ 0) = false := by decide
    generalize (ivS iv d 16).1 = z at *
    repeat' (first | (with_reducible refine then_normal ?_) | ((with_reducible refine then_ret ?_); clear hK K) | ((with_reducible refine then_exit ?_); clear hK K) | (with_reducible refine then_exit ?_) | (with_reducible refine then_ret ?_) | (with_reducible refine inB_normal ?_) | (with_reducible refine inB_ret ?_) | (with_reducible refine inB_here ?_) | (with_reducible refine inB_out (by decide) ?_) | ((with_reducible refine hK _ _ ?_); clear hK K) | ((with_reducible refine sel_indexA ?_); first | refine wl_rd rfl rfl (RdV.rd (rd_ixO rfl rfl rfl)) ?_ | refine wl_rd rfl rfl (RdV.rd (rd_ixA rfl rfl rfl)) ?_ | refine wl_rd rfl rfl (RdV.rd (rd_ixS rfl rfl rfl)) ?_) | ((with_reducible refine sel_load ?_); first | refine wl_rd rfl rfl (RdV.rd (rd_load rfl rfl ld_O)) ?_ | refine wl_rd rfl rfl (RdV.rd (rd_load rfl rfl ld_OR)) ?_ | refine wl_rd rfl rfl (RdV.rd (rd_load rfl rfl (ld_whole))) ?_ | refine wl_rd rfl rfl (RdV.rd (rd_load rfl rfl (ld_cell))) ?_ | refine wl_rd rfl rfl (RdV.rd (rd_load rfl rfl (ld_row))) ?_) | ((with_reducible refine sel_conv ?_); first | refine wl_rd rfl rfl (RdV.rd (rd_convS rfl rfl)) ?_ | refine wl_rd rfl rfl (RdV.rd (rd_conv rfl rfl)) ?_) | ((with_reducible refine sel_move ?_); first | refine wl_rd rfl rfl (RdV.rd (rd_move rfl rfl)) ?_) | ((with_reducible refine sel_assign ?_); first | refine wl_rd rfl rfl (RdV.rd (rd_assign rfl rfl)) ?_) | ((with_reducible refine sel_b_geq ?_); first | refine wl_rd rfl rfl (RdV.rd (rd_cm rfl rfl rfl rfl)) ?_) | ((with_reducible refine sel_b_add ?_); first | refine wl_rd rfl rfl (RdV.rd (rd_ar rfl rfl rfl rfl)) ?_) | ((with_reducible refine sel_b_sub ?_); first | refine wl_rd rfl rfl (RdV.rd (rd_ar rfl rfl rfl rfl)) ?_) | ((with_reducible refine sel_b_and ?_); first | refine wl_rd rfl rfl (RdV.rd (rd_bw rfl rfl rfl rfl)) ?_) | ((with_reducible refine sel_b_shr ?_); first | refine wl_rd rfl rfl (RdV.rd (rd_shr rfl rfl rfl)) ?_) | ((with_reducible refine sel_alloc ?_); first | (refine wl_new rfl rfl (mk_allocC rfl) ?_; intro n hn) | (refine wl_new rfl rfl (mk_alloc rfl) ?_; intro n hn)) | ((with_reducible refine sel_box ?_); first | (refine wl_new rfl rfl (mk_box rfl rfl) ?_; intro n hn)) | ((with_reducible refine sel_store ?_); first | refine wl_store rfl rfl (sv_whole rfl rfl rfl) ?_ | refine wl_store rfl rfl (sv_cell rfl rfl rfl rfl) ?_ | refine wl_store rfl rfl (sv_row rfl rfl rfl rfl) ?_ | refine wl_store rfl rfl (sv_cell rfl rfl rfl One.out) ?_ | refine wl_store rfl rfl (sv_row rfl rfl rfl (by simp only [List.all_cons, List.all_nil, One.out, Bool.and_true])) ?_) | (refine wl_skip rfl rfl ?_) | ((with_reducible refine wc_seq ?_); intro K hK) | ((with_reducible refine wc_region ?_); (try simp only [List.append_eq, List.cons_append, List.nil_append])) | (with_reducible refine wc_block ?_) | (with_reducible refine wc_skip ?_) | (with_reducible refine wc_exit ?_) | (with_reducible refine wc_ret ?_) | (with_reducible refine wc_label ?_) | ((with_reducible refine sel_cond ?_); first | refine wc_true rfl ?_ | refine wc_false rfl ?_ | refine wc_cond rfl (fun hc => ?_) (fun hc => ?_)) | (with_reducible refine wl_nil ?_))
    first | refine end_ret (ResP.cell rfl ld_whole ResP.nil) ?_ | refine end_normal (ResP.cell rfl ld_whole ResP.nil) ?_
    first | rfl | (show _ = _; rfl) | (simp only [tupV, *]; done)
end Go.Proofs.Ytdmmbkhnhfcmcaa
