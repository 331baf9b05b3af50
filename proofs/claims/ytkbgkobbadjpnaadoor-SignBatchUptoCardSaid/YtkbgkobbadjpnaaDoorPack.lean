/- curve.Pack. -/
import Derived.Test.YtkbgkobbadjpnaaDoorBytesAll
import Derived.Test.YtkbgkobbadjpnaaDoorCurve2
import Derived.Test.YtkbgkobbadjpnaaDoorPackPlain
namespace Go.Proofs.YtkbgkobbadjpnaaDoor
open Go.RowKit
set_option linter.unusedVariables false
set_option linter.unusedSimpArgs false
set_option maxRecDepth 8000
theorem bv_zero : Value.agg (List.replicate 32 (Value.int .u8 0)).toArray = bv 0 := by
  have : bytesC 0 = (List.replicate 32 (Value.int .u8 0)).toArray := by
    apply Array.ext_getElem?
    intro i
    by_cases hi : i < 32
    · rw [bytesC_get 0 i hi]
      unfold byteN
      rw [Nat.zero_div, Nat.zero_mod]
      rw [List.getElem?_toArray, List.getElem?_replicate, if_pos hi]
      rfl
    · rw [Array.getElem?_eq_none (by rw [bytesC_size]; omega), Array.getElem?_eq_none (by simp; omega)]
  rw [bv, this]
theorem b32_zero : ((Tryd.prog.info? 22).bind (·.zero)).map (·.cells) = some (List.replicate 32 (Value.int .u8 0)).toArray := by kernel_rfl
theorem b32_zero' : (List.replicate 32 (Value.int .u8 0)).toArray = bytesC 0 := by
  have h := bv_zero
  injection h
instance zc_b32 : ZC Tryd.prog 22 (bytesC 0) := ⟨b32_zero.trans (congrArg some b32_zero')⟩
theorem or_top : ∀ b : Nat, b < 128 → ∀ o : Nat, o < 2 → bits .or .u8 (b : Int) ((o * 128 : Nat) : Int) = ((b + o * 128 : Nat) : Int) := by decide +kernel
theorem byteN_top {y : Nat} (hy : y < 2 ^ 255) : byteN y 31 < 128 := by
  unfold byteN
  have : y / 2 ^ (8 * 31) < 128 := by
    rw [Nat.div_lt_iff_lt_mul (by decide)]
    have e : (2 : Nat) ^ 255 = 128 * 2 ^ (8 * 31) := by decide +kernel
    omega
  omega
theorem byteN_put {y o : Nat} (hy : y < 2 ^ 255) (ho : o < 2) : byteN y 31 + o * 128 = byteN (y + 2 ^ 255 * o) 31 ∧ ∀ j, j < 32 → j ≠ 31 → byteN y j = byteN (y + 2 ^ 255 * o) j := by
  have h := byteN_top hy
  constructor
  · unfold byteN at *
    have e : y + 2 ^ 255 * o = y + 2 ^ (8 * 31) * (128 * o) := by
      rw [← Nat.mul_assoc]
    rw [e, Nat.add_mul_div_left _ _ (by decide)]
    omega
  · intro j hj hne
    unfold byteN
    have e : y + 2 ^ 255 * o = y + 2 ^ (8 * j) * (256 * (2 ^ (247 - 8 * j) * o)) := by
      rw [← Nat.mul_assoc, ← Nat.mul_assoc, show 2 ^ (8 * j) * 256 * 2 ^ (247 - 8 * j) = 2 ^ 255 by
        rw [show (256 : Nat) = 2 ^ 8 from rfl, ← Nat.pow_add, ← Nat.pow_add]; congr 1; omega]
    rw [e, Nat.add_mul_div_left _ _ (Nat.pow_pos (by decide)), Nat.add_mul_mod_self_left]
theorem rowC_cell (x : Nat) (r : List Nat) (k : Nat) (hk : k < 4) : (rowC (x :: r))[k]? = some (.int .u64 (limb x k)) := by
  unfold rowC
  rw [Array.getElem?_append_left (by rw [(numC_cells x).size]; exact hk), numC_get x k hk]
set_option maxHeartbeats 2000000 in
theorem pack_yes {p : Pt} (hp : p.lt) (h : p.on) (hy : p.y < 2 ^ 255) (w : World) : Calls Tryd.prog 15 [pv p].toArray w (Ret (.tuple #[bv p.pack, .int .i64 0]) w) := by
  have OP := on_yes hp h
  have BB := bytes_bv p.y hp.2
  have hand := odd_word p.x
  have ho : p.x % 2 < 2 := by omega
  have ep : p.pack = p.y + 2 ^ 255 * (p.x % 2) := rfl
  generalize p.x % 2 = o at *
  obtain ⟨b1, b2⟩ := byteN_put hy ho
  rw [← ep] at b1 b2
  have hput := bytesC_put p.y p.pack 31 _ (by decide) b1 b2
  have hor := or_top _ (byteN_top hy) o ho
  have hc : IntKind.u8.wrap ((o : Nat) : Int) = (o : Int) := wrap_u8 _ (by omega) (by omega)
  have hs : IntKind.u8.wrap (((o : Nat) : Int) * 2 ^ (min (7 : Int).toNat (IntKind.bits .u8))) = ((o * 128 : Nat) : Int) := by
    rw [show min (7 : Int).toNat (IntKind.bits .u8) = 7 from rfl, wrap_u8 _ (by omega) (by omega)]; omega
  have g31 := bytesC_get p.y 31 (by decide)
  have x0 := rowC_cell p.x [p.y] 0 (by decide)
  clear ep b1 b2 ho h hp hy
  refine fn_ret (N := _) Tryd.func15 rfl Tryd.ntmps15 Tryd.results15 (by simp) ?_
  simp only [initS, Nat.reduceAdd, Nat.zero_add]
  repeat' (first | (refine wlR ?_) | (refine wlB ?_) | ((with_reducible refine sel_call ?_); refine wl_rd rfl rfl (rd_call rfl rfl rfl (fun w hm => by with_reducible first | exact OP w | exact BB w)) ?_) | (refine wlE ?_) | (refine efR ?_) | (refine efZCnn ?_; intro n hn) | (refine efBnn ?_; intro n hn) | (refine efB ?_) | (refine wl_skip rfl rfl ?_) | ((with_reducible refine wc_seq ?_); intro K hK) | (refine auC ?_) | (refine wc_cond rfl (fun hc => ?_) (fun hc => ?_)) | (refine wc_draw (by kernel_rfl) (by kernel_rfl) (by decide +kernel) ?_; intro w0 hw0 hm0; (try simp only [List.append_eq, List.cons_append, List.nil_append])) | (refine auP ?_) | ((refine auR ?_); clear hK K) | (refine auR ?_) | ((with_reducible refine hK _ _ ?_); clear hK K) | fail)
  first | refine end_ret (ResP.cell rfl ld_whole (ResP.tmp rfl ResP.nil)) ?_ | refine end_normal (ResP.cell rfl ld_whole (ResP.tmp rfl ResP.nil)) ?_
  first | rfl | (show _ = _; rfl) | (simp only [tupV, *]; done)
set_option maxHeartbeats 1000000 in
theorem pack_no {p : Pt} (hp : p.lt) (h : ¬ p.on) (w : World) : Calls Tryd.prog 15 [pv p].toArray w (Ret (.tuple #[bv 0, .int .i64 1]) w) := by
  have OP := on_no hp h
  have v0 := bv_zero
  clear h hp
  refine fn_ret (N := _) Tryd.func15 rfl Tryd.ntmps15 Tryd.results15 (by simp) ?_
  simp only [initS, Nat.reduceAdd, Nat.zero_add]
  repeat' (first | (refine wlR ?_) | (refine wlB ?_) | ((with_reducible refine sel_call ?_); refine wl_rd rfl rfl (rd_call rfl rfl rfl (fun w hm => by with_reducible exact OP w)) ?_) | ((with_reducible refine sel_build ?_); refine wv rfl rfl (rd_cast (rd_buildA rfl rfl) v0) ?_) | (refine wlE ?_) | (refine efR ?_) | (refine efZCnn ?_; intro n hn) | (refine efBnn ?_; intro n hn) | (refine efB ?_) | (refine wl_skip rfl rfl ?_) | ((with_reducible refine wc_seq ?_); intro K hK) | (refine auC ?_) | (refine wc_cond rfl (fun hc => ?_) (fun hc => ?_)) | (refine wc_draw (by kernel_rfl) (by kernel_rfl) (by decide +kernel) ?_; intro w0 hw0 hm0; (try simp only [List.append_eq, List.cons_append, List.nil_append])) | (refine auP ?_) | ((refine auR ?_); clear hK K) | (refine auR ?_) | ((with_reducible refine hK _ _ ?_); clear hK K) | fail)
  first | refine end_ret (ResP.cell rfl ld_whole (ResP.tmp rfl ResP.nil)) ?_ | refine end_normal (ResP.cell rfl ld_whole (ResP.tmp rfl ResP.nil)) ?_
  first | rfl | (show _ = _; rfl) | (simp only [tupV, *]; done)
end Go.Proofs.YtkbgkobbadjpnaaDoor
