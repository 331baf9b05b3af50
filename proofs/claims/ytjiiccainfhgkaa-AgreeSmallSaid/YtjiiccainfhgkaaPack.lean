/- curve.Pack. -/
import Derived.Test.YtjiiccainfhgkaaBv
import Derived.Test.YtjiiccainfhgkaaCurve2
import Derived.Test.YtjiiccainfhgkaaPlainA
namespace Go.Proofs.Ytjiiccainfhgkaa
open Go.RowKit
set_option linter.unusedVariables false
set_option linter.unusedSimpArgs false
set_option maxRecDepth 8000
theorem bv_zero : Value.agg (List.replicate 32 (Value.int .u8 0)).toArray = bv 0 := by
  have : bytesC 0 = (List.replicate 32 (Value.int .u8 0)).toArray := by
    apply Array.ext_getElem?
    intro i
    by_cases hi : i < 32
    · rw [bytesC_get 0 i hi]
      unfold byteOf
      rw [Nat.zero_div, Nat.zero_mod]
      rw [List.getElem?_toArray, List.getElem?_replicate, if_pos hi]
      rfl
    · rw [Array.getElem?_eq_none (by rw [bytesC_size]; omega), Array.getElem?_eq_none (by simp; omega)]
  rw [bv, this]
theorem b32_zero : ((Try.prog.info? 45).bind (·.zero)).map (·.cells) = some (List.replicate 32 (Value.int .u8 0)).toArray := by kernel_rfl
theorem b32_zero' : (List.replicate 32 (Value.int .u8 0)).toArray = bytesC 0 := by
  have h := bv_zero
  injection h
instance zc_b32 : ZC Try.prog 45 (bytesC 0) := ⟨b32_zero.trans (congrArg some b32_zero')⟩
theorem or_top : ∀ b : Nat, b < 128 → ∀ o : Nat, o < 2 → bits .or .u8 (b : Int) ((o * 128 : Nat) : Int) = ((b + o * 128 : Nat) : Int) := by decide +kernel
theorem byteOf_top {y : Nat} (hy : y < 2 ^ 255) : byteOf y 31 < 128 := by
  unfold byteOf
  have : y / 2 ^ (8 * 31) < 128 := by
    rw [Nat.div_lt_iff_lt_mul (by decide)]
    have e : (2 : Nat) ^ 255 = 128 * 2 ^ (8 * 31) := by decide +kernel
    omega
  omega
theorem byteOf_put {y o : Nat} (hy : y < 2 ^ 255) (ho : o < 2) : byteOf y 31 + o * 128 = byteOf (y + 2 ^ 255 * o) 31 ∧ ∀ j, j < 32 → j ≠ 31 → byteOf y j = byteOf (y + 2 ^ 255 * o) j := by
  have h := byteOf_top hy
  constructor
  · unfold byteOf at *
    have e : y + 2 ^ 255 * o = y + 2 ^ (8 * 31) * (128 * o) := by
      rw [← Nat.mul_assoc]
    rw [e, Nat.add_mul_div_left _ _ (by decide)]
    omega
  · intro j hj hne
    unfold byteOf
    have e : y + 2 ^ 255 * o = y + 2 ^ (8 * j) * (256 * (2 ^ (247 - 8 * j) * o)) := by
      rw [← Nat.mul_assoc, ← Nat.mul_assoc, show 2 ^ (8 * j) * 256 * 2 ^ (247 - 8 * j) = 2 ^ 255 by
        rw [show (256 : Nat) = 2 ^ 8 from rfl, ← Nat.pow_add, ← Nat.pow_add]; congr 1; omega]
    rw [e, Nat.add_mul_div_left _ _ (Nat.pow_pos (by decide)), Nat.add_mul_mod_self_left]
theorem rowC_cell (x : Nat) (r : List Nat) (k : Nat) (hk : k < 4) : (rowC (x :: r))[k]? = some (.int .u64 (limb x k)) := by
  unfold rowC
  rw [Array.getElem?_append_left (by rw [(numC_cells x).size]; exact hk), numC_get x k hk]
set_option maxHeartbeats 2000000 in
theorem pack_yes {p : Pt} (hp : p.lt) (h : p.on) (hy : p.y < 2 ^ 255) (w : World) : Calls Try.prog 46 [pv p].toArray w (Ret (.tuple #[bv p.pack, .int .i64 0]) w) := by
  have OP := on_yes hp h
  have BB := bytes_bv p.y hp.2
  have hand := odd_word p.x
  have ho : p.x % 2 < 2 := by omega
  have ep : p.pack = p.y + 2 ^ 255 * (p.x % 2) := rfl
  generalize p.x % 2 = o at *
  obtain ⟨b1, b2⟩ := byteOf_put hy ho
  rw [← ep] at b1 b2
  have hput := bytesC_put p.y p.pack 31 _ (by decide) b1 b2
  have hor := or_top _ (byteOf_top hy) o ho
  have hc : IntKind.u8.wrap ((o : Nat) : Int) = (o : Int) := wrap_u8 _ (by omega) (by omega)
  have hs : IntKind.u8.wrap (((o : Nat) : Int) * 2 ^ (min (7 : Int).toNat (IntKind.bits .u8))) = ((o * 128 : Nat) : Int) := by
    rw [show min (7 : Int).toNat (IntKind.bits .u8) = 7 from rfl, wrap_u8 _ (by omega) (by omega)]; omega
  have g31 := bytesC_get p.y 31 (by decide)
  have x0 := rowC_cell p.x [p.y] 0 (by decide)
  clear ep b1 b2 ho h hp hy
  refine fn_ret (N := _) Try.func46 rfl Try.ntmps46 Try.results46 (by simp) ?_
  simp only [initS, Nat.reduceAdd, Nat.zero_add]
  repeat' (first | (with_reducible refine then_normal ?_) | ((with_reducible refine then_ret ?_); clear hK K) | ((with_reducible refine then_exit ?_); clear hK K) | (with_reducible refine then_exit ?_) | (with_reducible refine then_ret ?_) | (with_reducible refine inB_normal ?_) | (with_reducible refine inB_ret ?_) | (with_reducible refine inB_here ?_) | (with_reducible refine inB_out (by decide) ?_) | ((with_reducible refine hK _ _ ?_); clear hK K) | ((with_reducible refine sel_load ?_); first | refine wl_rd rfl rfl (RdV.rd (rd_load rfl rfl ld_num)) ?_ | refine wl_rd rfl rfl (RdV.rd (rd_load rfl rfl (ld_whole))) ?_ | refine wl_rd rfl rfl (RdV.rd (rd_load rfl rfl (ld_cell))) ?_ | refine wl_rd rfl rfl (RdV.rd (rd_load rfl rfl (ld_row))) ?_) | ((with_reducible refine sel_build ?_); first | refine wl_rd rfl rfl (RdV.rd (rd_build2 rfl rfl)) ?_ | refine wl_rd rfl rfl (RdV.rd (rd_build2y rfl rfl)) ?_ | refine wl_rd rfl rfl (RdV.rd (rd_build2x rfl rfl)) ?_ | refine wl_rd rfl rfl (RdV.rd (rd_build20 rfl rfl)) ?_ | refine wl_rd rfl rfl (RdV.rd (rd_build4 rfl rfl)) ?_ | refine wl_rd rfl rfl (RdV.rd (rd_buildA rfl rfl)) ?_ | refine wl_rd rfl rfl (RdV.rd (rd_buildS rfl rfl)) ?_) | ((with_reducible refine sel_store ?_); first | refine wl_store rfl rfl (sv_num0 rfl rfl rfl) ?_ | refine wl_store rfl rfl (sv_num4 rfl rfl rfl) ?_ | refine wl_store rfl rfl (sv_whole rfl rfl rfl) ?_ | refine wl_store rfl rfl (sv_cell rfl rfl rfl rfl) ?_ | refine wl_store rfl rfl (sv_row rfl rfl rfl rfl) ?_) | ((with_reducible refine sel_assign ?_); first | refine wl_rd rfl rfl (RdV.rd (rd_assign rfl rfl)) ?_) | ((with_reducible refine sel_b_and ?_); first | refine wl_rd rfl rfl (RdV.rd (rd_bw rfl rfl rfl rfl)) ?_) | ((with_reducible refine sel_b_or ?_); first | refine wl_rd rfl rfl (RdV.rd (rd_bw rfl rfl rfl rfl)) ?_) | ((with_reducible refine sel_b_shl ?_); first | refine wl_rd rfl rfl (RdV.rd (rd_shl rfl rfl rfl)) ?_) | ((with_reducible refine sel_indexA ?_); first | refine wl_rd rfl rfl (RdV.rd (rd_ixA rfl rfl rfl)) ?_ | refine wl_rd rfl rfl (RdV.rd (rd_ixS rfl rfl rfl)) ?_) | ((with_reducible refine sel_fieldA ?_); first | refine wl_rd rfl rfl (RdV.rd (rd_fdA rfl rfl)) ?_) | ((with_reducible refine sel_conv ?_); first | refine wl_rd rfl rfl (RdV.rd (rd_conv rfl rfl)) ?_) | ((with_reducible refine sel_unop ?_); first | refine wl_rd rfl rfl (RdV.rd (rd_not rfl rfl)) ?_ | refine wl_rd rfl rfl (RdV.rd (rd_neg rfl rfl)) ?_ | refine wl_rd rfl rfl (RdV.rd (rd_inv rfl rfl)) ?_) | ((with_reducible refine sel_alloc ?_); first | (refine wl_new rfl rfl (mk_allocC rfl) ?_; intro n hn) | (refine wl_new rfl rfl (mk_alloc rfl) ?_; intro n hn)) | ((with_reducible refine sel_call ?_); first | refine wl_rd rfl rfl (rd_call rfl rfl rfl (fun w _ => by with_reducible exact OP w)) ?_ | refine wl_rd rfl rfl (rd_call rfl rfl rfl (fun w _ => by with_reducible exact BB w)) ?_ | refine wl_rd rfl rfl (RdV.rd (rd_lenS rfl rfl rfl rfl rfl)) ?_) | ((with_reducible refine sel_box ?_); first | (refine wl_new rfl rfl (mk_box rfl rfl) ?_; intro n hn)) | (refine wl_skip rfl rfl ?_) | ((with_reducible refine wc_seq ?_); intro K hK) | ((with_reducible refine wc_region ?_); (try simp only [List.append_eq, List.cons_append, List.nil_append])) | (with_reducible refine wc_block ?_) | (with_reducible refine wc_skip ?_) | (with_reducible refine wc_exit ?_) | (with_reducible refine wc_ret ?_) | (with_reducible refine wc_label ?_) | ((with_reducible refine sel_cond ?_); first | refine wc_true rfl ?_ | refine wc_false rfl ?_ | refine wc_cond rfl (fun hc => ?_) (fun hc => ?_)) | (with_reducible refine wl_nil ?_))
  first | refine end_ret (ResP.cell rfl ld_whole (ResP.tmp rfl ResP.nil)) ?_ | refine end_normal (ResP.cell rfl ld_whole (ResP.tmp rfl ResP.nil)) ?_
  first | rfl | (show _ = _; rfl)
set_option maxHeartbeats 1000000 in
theorem pack_no {p : Pt} (hp : p.lt) (h : ¬ p.on) (w : World) : Calls Try.prog 46 [pv p].toArray w (Ret (.tuple #[bv 0, .int .i64 1]) w) := by
  have OP := on_no hp h
  have v0 := bv_zero
  clear h hp
  refine fn_ret (N := _) Try.func46 rfl Try.ntmps46 Try.results46 (by simp) ?_
  simp only [initS, Nat.reduceAdd, Nat.zero_add]
  repeat' (first | (with_reducible refine then_normal ?_) | ((with_reducible refine then_ret ?_); clear hK K) | ((with_reducible refine then_exit ?_); clear hK K) | (with_reducible refine then_exit ?_) | (with_reducible refine then_ret ?_) | (with_reducible refine inB_normal ?_) | (with_reducible refine inB_ret ?_) | (with_reducible refine inB_here ?_) | (with_reducible refine inB_out (by decide) ?_) | ((with_reducible refine hK _ _ ?_); clear hK K) | ((with_reducible refine sel_load ?_); first | refine wl_rd rfl rfl (RdV.rd (rd_load rfl rfl ld_num)) ?_ | refine wl_rd rfl rfl (RdV.rd (rd_load rfl rfl (ld_whole))) ?_ | refine wl_rd rfl rfl (RdV.rd (rd_load rfl rfl (ld_cell))) ?_ | refine wl_rd rfl rfl (RdV.rd (rd_load rfl rfl (ld_row))) ?_) | ((with_reducible refine sel_build ?_); first | refine wl_rd rfl rfl (RdV.rd (rd_build2 rfl rfl)) ?_ | refine wl_rd rfl rfl (RdV.rd (rd_build2y rfl rfl)) ?_ | refine wl_rd rfl rfl (RdV.rd (rd_build2x rfl rfl)) ?_ | refine wl_rd rfl rfl (RdV.rd (rd_build20 rfl rfl)) ?_ | refine wl_rd rfl rfl (RdV.rd (rd_build4 rfl rfl)) ?_ | refine wl_rd rfl rfl (RdV.rd (rd_cast (rd_buildA rfl rfl) v0)) ?_ | refine wl_rd rfl rfl (RdV.rd (rd_buildA rfl rfl)) ?_ | refine wl_rd rfl rfl (RdV.rd (rd_buildS rfl rfl)) ?_) | ((with_reducible refine sel_store ?_); first | refine wl_store rfl rfl (sv_num0 rfl rfl rfl) ?_ | refine wl_store rfl rfl (sv_num4 rfl rfl rfl) ?_ | refine wl_store rfl rfl (sv_whole rfl rfl rfl) ?_ | refine wl_store rfl rfl (sv_cell rfl rfl rfl rfl) ?_ | refine wl_store rfl rfl (sv_row rfl rfl rfl rfl) ?_) | ((with_reducible refine sel_assign ?_); first | refine wl_rd rfl rfl (RdV.rd (rd_assign rfl rfl)) ?_) | ((with_reducible refine sel_b_and ?_); first | refine wl_rd rfl rfl (RdV.rd (rd_bw rfl rfl rfl rfl)) ?_) | ((with_reducible refine sel_b_or ?_); first | refine wl_rd rfl rfl (RdV.rd (rd_bw rfl rfl rfl rfl)) ?_) | ((with_reducible refine sel_b_shl ?_); first | refine wl_rd rfl rfl (RdV.rd (rd_shl rfl rfl rfl)) ?_) | ((with_reducible refine sel_indexA ?_); first | refine wl_rd rfl rfl (RdV.rd (rd_ixA rfl rfl rfl)) ?_ | refine wl_rd rfl rfl (RdV.rd (rd_ixS rfl rfl rfl)) ?_) | ((with_reducible refine sel_fieldA ?_); first | refine wl_rd rfl rfl (RdV.rd (rd_fdA rfl rfl)) ?_) | ((with_reducible refine sel_conv ?_); first | refine wl_rd rfl rfl (RdV.rd (rd_conv rfl rfl)) ?_) | ((with_reducible refine sel_unop ?_); first | refine wl_rd rfl rfl (RdV.rd (rd_not rfl rfl)) ?_ | refine wl_rd rfl rfl (RdV.rd (rd_neg rfl rfl)) ?_ | refine wl_rd rfl rfl (RdV.rd (rd_inv rfl rfl)) ?_) | ((with_reducible refine sel_alloc ?_); first | (refine wl_new rfl rfl (mk_allocC rfl) ?_; intro n hn) | (refine wl_new rfl rfl (mk_alloc rfl) ?_; intro n hn)) | ((with_reducible refine sel_call ?_); first | refine wl_rd rfl rfl (rd_call rfl rfl rfl (fun w _ => by with_reducible exact OP w)) ?_ | refine wl_rd rfl rfl (RdV.rd (rd_lenS rfl rfl rfl rfl rfl)) ?_) | ((with_reducible refine sel_box ?_); first | (refine wl_new rfl rfl (mk_box rfl rfl) ?_; intro n hn)) | (refine wl_skip rfl rfl ?_) | ((with_reducible refine wc_seq ?_); intro K hK) | ((with_reducible refine wc_region ?_); (try simp only [List.append_eq, List.cons_append, List.nil_append])) | (with_reducible refine wc_block ?_) | (with_reducible refine wc_skip ?_) | (with_reducible refine wc_exit ?_) | (with_reducible refine wc_ret ?_) | (with_reducible refine wc_label ?_) | ((with_reducible refine sel_cond ?_); first | refine wc_true rfl ?_ | refine wc_false rfl ?_ | refine wc_cond rfl (fun hc => ?_) (fun hc => ?_)) | (with_reducible refine wl_nil ?_))
  first | refine end_ret (ResP.cell rfl ld_whole (ResP.tmp rfl ResP.nil)) ?_ | refine end_normal (ResP.cell rfl ld_whole (ResP.tmp rfl ResP.nil)) ?_
  first | rfl | (show _ = _; rfl)
end Go.Proofs.Ytjiiccainfhgkaa
