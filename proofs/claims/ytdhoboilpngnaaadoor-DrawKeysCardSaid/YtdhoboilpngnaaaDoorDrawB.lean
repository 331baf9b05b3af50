/- Bytes out of a seed: Place, Skip, Bytes, New walked. -/
import Derived.Test.YtdhoboilpngnaaaDoorDraw
namespace Go.Proofs.YtdhoboilpngnaaaDoor
open Go.RowKit
attribute [local irreducible] rwA bys iw blkD byteD MS.sum MS.write
set_option linter.unusedVariables false
set_option linter.unusedSimpArgs false
theorem byteD_lt (key : MS) (p : Nat) : byteD key p < 256 := by
  unfold byteD
  rw [List.getD_eq_getElem?_getD]
  cases h : (blkD key (p / 32))[p % 32]? with
  | none => simp
  | some x => exact (ByL.out : ∀ x ∈ blkD key (p / 32), x < 256) x (List.mem_of_getElem? h)
/-- n bytes from a place on. -/
def bytesD (key : MS) (p n : Nat) : List Nat := (List.range n).map fun j => byteD key (p + j)
theorem bytesD_len (key : MS) (p n : Nat) : (bytesD key p n).length = n := by simp [bytesD]
theorem bytesD_app (key : MS) (p n m : Nat) : bytesD key p (n + m) = bytesD key p n ++ bytesD key (p + n) m := by
  unfold bytesD
  rw [List.range_add, List.map_append, List.map_map]
  congr 1
  refine List.map_congr_left fun j _ => ?_
  show byteD key (p + (n + j)) = byteD key (p + n + j)
  rw [Nat.add_assoc]
theorem bytesD_blk {key : MS} [MSo key] (k : Nat) : bytesD key (32 * k) 32 = blkD key k := by
  have hl : (blkD key k).length = 32 := NBy.out
  refine List.ext_getElem (by rw [bytesD_len, hl]) fun j h1 h2 => ?_
  rw [bytesD_len] at h1
  simp only [bytesD, List.getElem_map, List.getElem_range]
  unfold byteD
  rw [show (32 * k + j) / 32 = k by omega, show (32 * k + j) % 32 = j by omega, List.getD_eq_getElem?_getD, List.getElem?_eq_getElem h2]; rfl
instance {key : MS} {p n : Nat} : ByL (bytesD key p n) := ⟨fun x hx => by
  obtain ⟨j, _, rfl⟩ := List.mem_map.1 hx
  exact byteD_lt _ _⟩
/-- The first i bytes of it. -/
def outD (key : MS) (p n i : Nat) : List Nat := bytesD key p i ++ List.replicate (n - i) 0
theorem outD_step (key : MS) (p : Nat) {n i : Nat} (h : i < n) : (outD key p n i).set i (byteD key (p + i)) = outD key p n (i + 1) := by
  rw [outD, List.set_append_right _ _ (by rw [bytesD_len]; exact Nat.le_refl _), bytesD_len, Nat.sub_self, show n - i = n - (i + 1) + 1 by omega, List.replicate_succ, List.set_cons_zero, outD, bytesD_app, List.append_assoc]
  rfl
theorem outD_all (key : MS) (p n : Nat) : outD key p n n = bytesD key p n := by simp [outD]
def zeroS : Src := ⟨zeroM, 0, List.replicate 32 0, false⟩
def newS (key : List Nat) : Src := ⟨newM key, 0, List.replicate 32 0, false⟩
instance {k : Nat} : ByL (List.replicate k 0) := ⟨fun x hx => by rw [(List.mem_replicate.1 hx).2]; decide⟩
theorem newS_ok {key : List Nat} [ByL key] : SrcOk (newS key) := ⟨inferInstanceAs (MSo (newM key)), inferInstanceAs (NBy (List.replicate 32 0) 32), inferInstanceAs (ByL (List.replicate 32 0)), fun h => by cases h⟩
set_option maxRecDepth 100000 in
instance : ZG Tryd.prog 94 [(146, rwA (sgM zeroM)), (1, #[.int .u64 0]), (32, bys (List.replicate 32 0)), (1, #[.bool false])] := ⟨by kernel_rfl, inferInstance⟩
set_option maxRecDepth 100000 in
set_option maxHeartbeats 2000000 in
theorem at_c (w : World) (hT : Tab w) (w' : World) (hb : Below w.heap.size w w') {v : Value} {n : Nat} {key : List Nat} (hq : Cb w' v n key) :
    Calls Tryd.prog 53 [v, .int .u64 0].toArray w' (RetO (fun n => ptr n) (fun n oa => oa = [(n, (rwA (sgS (newS key)), 94))]) w') := by
  have NG := mnew_g w' (hT.below hb)
  have i1 := hq.old
  haveI : ByL key := ⟨hq.ok.by'⟩
  clear hT hb hq
  refine fn_own (N := _) Tryd.func53 rfl Tryd.ntmps53 Tryd.results53 (by simp) ?_
  simp only [initS, Nat.reduceAdd, Nat.zero_add]
  repeat' (first | (with_reducible refine then_normal ?_) | ((with_reducible refine then_ret ?_); clear hK K) | ((with_reducible refine then_exit ?_); clear hK K) | (with_reducible refine then_exit ?_) | (with_reducible refine then_ret ?_) | (with_reducible refine inB_normal ?_) | (with_reducible refine inB_ret ?_) | (with_reducible refine inB_here ?_) | (with_reducible refine inB_out (by decide) ?_) | ((with_reducible refine hK _ _ ?_); clear hK K) | ((with_reducible refine sel_call ?_); first | (refine wl_appendB rfl rfl rfl rfl rfl ?_; intro v oa ho) | (refine wl_appendO rfl rfl rfl rfl rfl ?_; intro v oa ho) | refine wl_rd rfl rfl (rd_call rfl rfl rfl (fun w hm => by with_reducible exact NG w (hm.below rfl) (VwB.out w hm))) ?_ | refine wl_rd rfl rfl (RdV.rd (rd_lenO rfl rfl rfl rfl rfl)) ?_ | refine wl_rd rfl rfl (RdV.rd (rd_lenS rfl rfl rfl rfl rfl)) ?_) | ((with_reducible refine sel_build ?_); first | refine wl_rd rfl rfl (RdV.rd (rd_buildO rfl rfl rfl rfl rfl)) ?_ | refine wl_rd rfl rfl (RdV.rd (rd_buildH rfl rfl)) ?_ | refine wl_rd rfl rfl (RdV.rd (rd_buildA rfl rfl)) ?_ | refine wl_rd rfl rfl (RdV.rd (rd_buildS rfl rfl)) ?_) | ((with_reducible refine sel_move ?_); first | refine wl_rd rfl rfl (RdV.rd (rd_move rfl rfl)) ?_) | ((with_reducible refine sel_assign ?_); first | refine wl_rd rfl rfl (RdV.rd (rd_assign rfl rfl)) ?_) | ((with_reducible refine sel_box ?_); first | (refine wl_new rfl rfl (mk_box rfl rfl) ?_; intro n hn)) | (refine wl_skip rfl rfl ?_) | ((with_reducible refine wc_seq ?_); intro K hK) | ((with_reducible refine wc_region ?_); (try simp only [List.append_eq, List.cons_append, List.nil_append])) | (with_reducible refine wc_block ?_) | (with_reducible refine wc_skip ?_) | (with_reducible refine wc_exit ?_) | (with_reducible refine wc_ret ?_) | (with_reducible refine wc_label ?_) | ((with_reducible refine sel_cond ?_); first | refine wc_true rfl ?_ | refine wc_false rfl ?_ | refine wc_cond rfl (fun hc => ?_) (fun hc => ?_)) | (with_reducible refine wl_nil ?_))
  first | refine end_ret (ResP.tmp rfl ResP.nil) ?_ | refine end_normal (ResP.tmp rfl ResP.nil) ?_
  (try dsimp only [tupV])
  exact ⟨_, _, rfl, rfl, SubL.refl _⟩
set_option maxRecDepth 100000 in
set_option maxHeartbeats 2000000 in
theorem new_d (w : World) (hT : Tab w) (w' : World) (hb : Below w.heap.size w w') {v : Value} {n : Nat} {key : List Nat} (hq : Cb w' v n key) :
    Calls Tryd.prog 24 [v].toArray w' (RetO (fun n => ptr n) (fun n oa => oa = [(n, (rwA (sgS (newS key)), 94))]) w') := by
  have AT := fun w'' (h : Below w'.heap.size w' w'') => at_c w' (hT.below hb) w'' h (hq.below h)
  clear hT hb hq
  refine fn_own (N := _) Tryd.func24 rfl Tryd.ntmps24 Tryd.results24 (by simp) ?_
  simp only [initS, Nat.reduceAdd, Nat.zero_add]
  repeat' (first | (with_reducible refine then_normal ?_) | ((with_reducible refine then_ret ?_); clear hK K) | ((with_reducible refine then_exit ?_); clear hK K) | (with_reducible refine then_exit ?_) | (with_reducible refine then_ret ?_) | (with_reducible refine inB_normal ?_) | (with_reducible refine inB_ret ?_) | (with_reducible refine inB_here ?_) | (with_reducible refine inB_out (by decide) ?_) | ((with_reducible refine hK _ _ ?_); clear hK K) | ((with_reducible refine sel_call ?_); first | (refine wl_appendB rfl rfl rfl rfl rfl ?_; intro v oa ho) | (refine wl_appendO rfl rfl rfl rfl rfl ?_; intro v oa ho) | (refine wl_newO rfl rfl rfl rfl rfl (fun w hm => by with_reducible exact AT w (hm.below rfl)) ?_; intro x oa hx) | refine wl_rd rfl rfl (RdV.rd (rd_lenO rfl rfl rfl rfl rfl)) ?_ | refine wl_rd rfl rfl (RdV.rd (rd_lenS rfl rfl rfl rfl rfl)) ?_) | ((with_reducible refine sel_move ?_); first | refine wl_rd rfl rfl (RdV.rd (rd_move rfl rfl)) ?_) | ((with_reducible refine sel_assign ?_); first | refine wl_rd rfl rfl (RdV.rd (rd_assign rfl rfl)) ?_) | (refine wl_skip rfl rfl ?_) | ((with_reducible refine wc_seq ?_); intro K hK) | ((with_reducible refine wc_region ?_); (try simp only [List.append_eq, List.cons_append, List.nil_append])) | (with_reducible refine wc_block ?_) | (with_reducible refine wc_skip ?_) | (with_reducible refine wc_exit ?_) | (with_reducible refine wc_ret ?_) | (with_reducible refine wc_label ?_) | ((with_reducible refine sel_cond ?_); first | refine wc_true rfl ?_ | refine wc_false rfl ?_ | refine wc_cond rfl (fun hc => ?_) (fun hc => ?_)) | (with_reducible refine wl_nil ?_))
  first | refine end_ret (ResP.tmp rfl ResP.nil) ?_ | refine end_normal (ResP.tmp rfl ResP.nil) ?_
  (try dsimp only [tupV])
  exact ⟨_, _, rfl, hx, SubL.refl _⟩
set_option maxRecDepth 100000 in
set_option maxHeartbeats 2000000 in
theorem place_c (w' : World) {g : Nat} {s : Src} (hs : SrcOk s) (hg : w'.heap[g]? = some (.cells (rwA (sgS s)) 94)) :
    Calls Tryd.prog 26 [ptr g].toArray w' (Ret (.int .u64 (s.place : Int)) w') := by
  obtain ⟨ky, pl, bk, md⟩ := s
  obtain ⟨h1, h2, h3, h4⟩ := hs
  dsimp only [sgS] at *
  have c0 : w'.cell? ⟨g, 146, none⟩ = some (.int .u64 (pl : Int)) :=
    cell_of hg (rw_cell rfl)
  clear hg
  refine fn_ret (N := _) Tryd.func26 rfl Tryd.ntmps26 Tryd.results26 (by simp) ?_
  simp only [initS, Nat.reduceAdd, Nat.zero_add]
  repeat' (first | (with_reducible refine then_normal ?_) | ((with_reducible refine then_ret ?_); clear hK K) | ((with_reducible refine then_exit ?_); clear hK K) | (with_reducible refine then_exit ?_) | (with_reducible refine then_ret ?_) | (with_reducible refine inB_normal ?_) | (with_reducible refine inB_ret ?_) | (with_reducible refine inB_here ?_) | (with_reducible refine inB_out (by decide) ?_) | ((with_reducible refine hK _ _ ?_); clear hK K) | ((with_reducible refine sel_fieldA ?_); first | refine wl_rd rfl rfl (RdV.rd (rd_fdO rfl rfl)) ?_ | refine wl_rd rfl rfl (RdV.rd (rd_fdA rfl rfl)) ?_) | ((with_reducible refine sel_load ?_); first | refine wl_rd rfl rfl (RdV.rd (rd_load rfl rfl ld_O)) ?_ | refine wl_rd rfl rfl (RdV.rd (rd_load rfl rfl ld_OR)) ?_ | refine wl_rd rfl rfl (RdV.rd (rd_load rfl rfl (ld_whole))) ?_ | refine wl_rd rfl rfl (RdV.rd (rd_load rfl rfl (ld_cell))) ?_ | refine wl_rd rfl rfl (RdV.rd (rd_load rfl rfl (ld_row))) ?_ | refine wl_rd rfl rfl (RdV.rd (rd_load rfl rfl (ld_old (by with_reducible assumption)))) ?_) | ((with_reducible refine sel_move ?_); first | refine wl_rd rfl rfl (RdV.rd (rd_move rfl rfl)) ?_) | ((with_reducible refine sel_assign ?_); first | refine wl_rd rfl rfl (RdV.rd (rd_assign rfl rfl)) ?_) | ((with_reducible refine sel_nilc ?_); first | refine wl_rd rfl rfl (RdV.rd (rd_nilP rfl rfl)) ?_) | (refine wl_skip rfl rfl ?_) | ((with_reducible refine wc_seq ?_); intro K hK) | ((with_reducible refine wc_region ?_); (try simp only [List.append_eq, List.cons_append, List.nil_append])) | (with_reducible refine wc_block ?_) | (with_reducible refine wc_skip ?_) | (with_reducible refine wc_exit ?_) | (with_reducible refine wc_ret ?_) | (with_reducible refine wc_label ?_) | ((with_reducible refine sel_cond ?_); first | refine wc_true rfl ?_ | refine wc_false rfl ?_ | refine wc_cond rfl (fun hc => ?_) (fun hc => ?_)) | (with_reducible refine wl_nil ?_))
  first | refine end_ret (ResP.tmp rfl ResP.nil) ?_ | refine end_normal (ResP.tmp rfl ResP.nil) ?_
  first | rfl | (show _ = _; rfl) | (simp only [tupV, *]; done)
theorem fits_ok (w : World) {n : Nat} (h : n ≤ 4096) : Calls Tryd.prog 54 [.int .i64 (n : Int)].toArray w (Ret (.int .i64 0) w) := by
  have t1 : decide ((n : Int) < 0) = false := decide_eq_false (by omega)
  have t2 : decide ((n : Int) > 4096) = false := decide_eq_false (by omega)
  refine fn_ret (N := _) Tryd.func54 rfl Tryd.ntmps54 Tryd.results54 (by simp) ?_
  simp only [initS, Nat.reduceAdd, Nat.zero_add]
  repeat' (first | (with_reducible refine then_normal ?_) | ((with_reducible refine then_ret ?_); clear hK K) | ((with_reducible refine then_exit ?_); clear hK K) | (with_reducible refine then_exit ?_) | (with_reducible refine then_ret ?_) | (with_reducible refine inB_normal ?_) | (with_reducible refine inB_ret ?_) | (with_reducible refine inB_here ?_) | (with_reducible refine inB_out (by decide) ?_) | ((with_reducible refine hK _ _ ?_); clear hK K) | ((with_reducible refine sel_move ?_); first | refine wl_rd rfl rfl (RdV.rd (rd_move rfl rfl)) ?_) | ((with_reducible refine sel_assign ?_); first | refine wl_rd rfl rfl (RdV.rd (rd_assign rfl rfl)) ?_) | ((with_reducible refine sel_b_lss ?_); first | refine wl_rd rfl rfl (RdV.rd (rd_cm rfl rfl rfl rfl)) ?_) | ((with_reducible refine sel_b_gtr ?_); first | refine wl_rd rfl rfl (RdV.rd (rd_cm rfl rfl rfl rfl)) ?_) | (refine wl_skip rfl rfl ?_) | ((with_reducible refine wc_seq ?_); intro K hK) | ((with_reducible refine wc_region ?_); (try simp only [List.append_eq, List.cons_append, List.nil_append])) | (with_reducible refine wc_block ?_) | (with_reducible refine wc_skip ?_) | (with_reducible refine wc_exit ?_) | (with_reducible refine wc_ret ?_) | (with_reducible refine wc_label ?_) | ((with_reducible refine sel_cond ?_); first | refine wc_true rfl ?_ | refine wc_false rfl ?_ | refine wc_cond rfl (fun hc => ?_) (fun hc => ?_)) | (with_reducible refine wl_nil ?_))
  first | refine end_ret (ResP.tmp rfl ResP.nil) ?_ | refine end_normal (ResP.tmp rfl ResP.nil) ?_
  first | rfl | (show _ = _; rfl) | (simp only [tupV, *]; done)
theorem fits_neg (w : World) {z : Int} (h : z < 0) : Calls Tryd.prog 54 [.int .i64 z].toArray w (Ret (.int .i64 1) w) := by
  have t1 : decide (z < 0) = true := decide_eq_true h
  refine fn_ret (N := _) Tryd.func54 rfl Tryd.ntmps54 Tryd.results54 (by simp) ?_
  simp only [initS, Nat.reduceAdd, Nat.zero_add]
  repeat' (first | (with_reducible refine then_normal ?_) | ((with_reducible refine then_ret ?_); clear hK K) | ((with_reducible refine then_exit ?_); clear hK K) | (with_reducible refine then_exit ?_) | (with_reducible refine then_ret ?_) | (with_reducible refine inB_normal ?_) | (with_reducible refine inB_ret ?_) | (with_reducible refine inB_here ?_) | (with_reducible refine inB_out (by decide) ?_) | ((with_reducible refine hK _ _ ?_); clear hK K) | ((with_reducible refine sel_move ?_); first | refine wl_rd rfl rfl (RdV.rd (rd_move rfl rfl)) ?_) | ((with_reducible refine sel_assign ?_); first | refine wl_rd rfl rfl (RdV.rd (rd_assign rfl rfl)) ?_) | ((with_reducible refine sel_b_lss ?_); first | refine wl_rd rfl rfl (RdV.rd (rd_cm rfl rfl rfl rfl)) ?_) | ((with_reducible refine sel_b_gtr ?_); first | refine wl_rd rfl rfl (RdV.rd (rd_cm rfl rfl rfl rfl)) ?_) | (refine wl_skip rfl rfl ?_) | ((with_reducible refine wc_seq ?_); intro K hK) | ((with_reducible refine wc_region ?_); (try simp only [List.append_eq, List.cons_append, List.nil_append])) | (with_reducible refine wc_block ?_) | (with_reducible refine wc_skip ?_) | (with_reducible refine wc_exit ?_) | (with_reducible refine wc_ret ?_) | (with_reducible refine wc_label ?_) | ((with_reducible refine sel_cond ?_); first | refine wc_true rfl ?_ | refine wc_false rfl ?_ | refine wc_cond rfl (fun hc => ?_) (fun hc => ?_)) | (with_reducible refine wl_nil ?_))
  first | refine end_ret (ResP.tmp rfl ResP.nil) ?_ | refine end_normal (ResP.tmp rfl ResP.nil) ?_
  first | rfl | (show _ = _; rfl) | (simp only [tupV, *]; done)
theorem fits_big (w : World) {z : Int} (h : z > 4096) : Calls Tryd.prog 54 [.int .i64 z].toArray w (Ret (.int .i64 2) w) := by
  have t1 : decide (z < 0) = false := decide_eq_false (by omega)
  have t2 : decide (z > 4096) = true := decide_eq_true h
  refine fn_ret (N := _) Tryd.func54 rfl Tryd.ntmps54 Tryd.results54 (by simp) ?_
  simp only [initS, Nat.reduceAdd, Nat.zero_add]
  repeat' (first | (with_reducible refine then_normal ?_) | ((with_reducible refine then_ret ?_); clear hK K) | ((with_reducible refine then_exit ?_); clear hK K) | (with_reducible refine then_exit ?_) | (with_reducible refine then_ret ?_) | (with_reducible refine inB_normal ?_) | (with_reducible refine inB_ret ?_) | (with_reducible refine inB_here ?_) | (with_reducible refine inB_out (by decide) ?_) | ((with_reducible refine hK _ _ ?_); clear hK K) | ((with_reducible refine sel_move ?_); first | refine wl_rd rfl rfl (RdV.rd (rd_move rfl rfl)) ?_) | ((with_reducible refine sel_assign ?_); first | refine wl_rd rfl rfl (RdV.rd (rd_assign rfl rfl)) ?_) | ((with_reducible refine sel_b_lss ?_); first | refine wl_rd rfl rfl (RdV.rd (rd_cm rfl rfl rfl rfl)) ?_) | ((with_reducible refine sel_b_gtr ?_); first | refine wl_rd rfl rfl (RdV.rd (rd_cm rfl rfl rfl rfl)) ?_) | (refine wl_skip rfl rfl ?_) | ((with_reducible refine wc_seq ?_); intro K hK) | ((with_reducible refine wc_region ?_); (try simp only [List.append_eq, List.cons_append, List.nil_append])) | (with_reducible refine wc_block ?_) | (with_reducible refine wc_skip ?_) | (with_reducible refine wc_exit ?_) | (with_reducible refine wc_ret ?_) | (with_reducible refine wc_label ?_) | ((with_reducible refine sel_cond ?_); first | refine wc_true rfl ?_ | refine wc_false rfl ?_ | refine wc_cond rfl (fun hc => ?_) (fun hc => ?_)) | (with_reducible refine wl_nil ?_))
  first | refine end_ret (ResP.tmp rfl ResP.nil) ?_ | refine end_normal (ResP.tmp rfl ResP.nil) ?_
  first | rfl | (show _ = _; rfl) | (simp only [tupV, *]; done)
set_option maxRecDepth 100000 in
set_option maxHeartbeats 2000000 in
theorem skip_c (w' : World) {g n : Nat} {s : Src} (hs : SrcOk s) (hn : n ≤ 4096) (hp : s.place + n < 18446744073709551616) (hg : w'.heap[g]? = some (.cells (rwA (sgS s)) 94)) :
    Calls Tryd.prog 29 [ptr g, .int .i64 (n : Int)].toArray w' (RetP (fun _ : Unit => .int .i64 0) g (rwA (sgS s)) 94
      (fun _ c => ∃ s' : Src, s'.key = s.key ∧ s'.place = s.place + n ∧ SrcOk s' ∧ c = rwA (sgS s')) w') := by
  obtain ⟨ky, pl, bk, md⟩ := s
  obtain ⟨h1, h2, h3, h4⟩ := hs
  dsimp only [sgS] at *
  have FT := fun w'' => fits_ok w'' hn
  have k1 : IntKind.u64.wrap (n : Int) = (n : Int) := by rw [wrapU, Nat.mod_eq_of_lt (by omega)]
  have k2 : IntKind.u64.wrap ((pl : Int) + (n : Int)) = ((pl + n : Nat) : Int) := by rw [show (pl : Int) + (n : Int) = ((pl + n : Nat) : Int) by omega, wrapU, Nat.mod_eq_of_lt hp]
  refine fn_updP (N := _) Tryd.func29 rfl Tryd.ntmps29 Tryd.results29 (by simp) hg ?_
  simp only [initS, Nat.reduceAdd, Nat.zero_add]
  repeat' (first | (with_reducible refine then_normal ?_) | ((with_reducible refine then_ret ?_); clear hK K) | ((with_reducible refine then_exit ?_); clear hK K) | (with_reducible refine then_exit ?_) | (with_reducible refine then_ret ?_) | (with_reducible refine inB_normal ?_) | (with_reducible refine inB_ret ?_) | (with_reducible refine inB_here ?_) | (with_reducible refine inB_out (by decide) ?_) | ((with_reducible refine hK _ _ ?_); clear hK K) | ((with_reducible refine sel_fieldA ?_); first | refine wl_rd rfl rfl (RdV.rd (rd_fdO rfl rfl)) ?_ | refine wl_rd rfl rfl (RdV.rd (rd_fdA rfl rfl)) ?_) | ((with_reducible refine sel_load ?_); first | refine wl_rd rfl rfl (RdV.rd (rd_load rfl rfl ld_O)) ?_ | refine wl_rd rfl rfl (RdV.rd (rd_load rfl rfl ld_OR)) ?_ | refine wl_rd rfl rfl (RdV.rd (rd_load rfl rfl ld_wholeG)) ?_ | refine wl_rd rfl rfl (RdV.rd (rd_load rfl rfl ld_sg)) ?_ | refine wl_rd rfl rfl (RdV.rd (rd_load rfl rfl ld_sg1)) ?_ | refine wl_rd rfl rfl (RdV.rd (rd_load rfl rfl (ld_whole))) ?_ | refine wl_rd rfl rfl (RdV.rd (rd_load rfl rfl (ld_cell))) ?_ | refine wl_rd rfl rfl (RdV.rd (rd_load rfl rfl (ld_row))) ?_) | ((with_reducible refine sel_call ?_); first | (refine wl_appendB rfl rfl rfl rfl rfl ?_; intro v oa ho) | (refine wl_appendO rfl rfl rfl rfl rfl ?_; intro v oa ho) | refine wl_rd rfl rfl (rd_call rfl rfl rfl (fun w _ => by with_reducible exact FT w)) ?_ | refine wl_rd rfl rfl (RdV.rd (rd_lenO rfl rfl rfl rfl rfl)) ?_ | refine wl_rd rfl rfl (RdV.rd (rd_lenS rfl rfl rfl rfl rfl)) ?_) | ((with_reducible refine sel_conv ?_); first | refine wl_rd rfl rfl (RdV.rd (rd_convS rfl rfl)) ?_ | refine wl_rd rfl rfl (RdV.rd (rd_conv rfl rfl)) ?_) | ((with_reducible refine sel_store ?_); first | refine wl_store rfl rfl (sv_wholeG rfl rfl rfl) ?_ | refine wl_store rfl rfl (sv_sg rfl rfl rfl) ?_ | refine wl_store rfl rfl (sv_sg1 rfl rfl rfl) ?_ | refine wl_store rfl rfl (sv_whole rfl rfl rfl) ?_ | refine wl_store rfl rfl (sv_cell rfl rfl rfl rfl) ?_ | refine wl_store rfl rfl (sv_row rfl rfl rfl rfl) ?_ | refine wl_store rfl rfl (sv_cell rfl rfl rfl One.out) ?_ | refine wl_store rfl rfl (sv_row rfl rfl rfl (by simp only [List.all_cons, List.all_nil, One.out, Bool.and_true])) ?_) | ((with_reducible refine sel_move ?_); first | refine wl_rd rfl rfl (RdV.rd (rd_move rfl rfl)) ?_) | ((with_reducible refine sel_assign ?_); first | refine wl_rd rfl rfl (RdV.rd (rd_assign rfl rfl)) ?_) | ((with_reducible refine sel_b_neq ?_); first | refine wl_rd rfl rfl (RdV.rd (rd_cm rfl rfl rfl rfl)) ?_) | ((with_reducible refine sel_b_add ?_); first | refine wl_rd rfl rfl (RdV.rd (rd_ar rfl rfl rfl rfl)) ?_) | ((with_reducible refine sel_nilc ?_); first | refine wl_rd rfl rfl (RdV.rd (rd_nilP rfl rfl)) ?_) | (refine wl_skip rfl rfl ?_) | ((with_reducible refine wc_seq ?_); intro K hK) | ((with_reducible refine wc_region ?_); (try simp only [List.append_eq, List.cons_append, List.nil_append])) | (with_reducible refine wc_block ?_) | (with_reducible refine wc_skip ?_) | (with_reducible refine wc_exit ?_) | (with_reducible refine wc_ret ?_) | (with_reducible refine wc_label ?_) | ((with_reducible refine sel_cond ?_); first | refine wc_true rfl ?_ | refine wc_false rfl ?_ | refine wc_cond rfl (fun hc => ?_) (fun hc => ?_)) | (with_reducible refine wl_nil ?_))
  first | refine end_ret (ResP.tmp rfl ResP.nil) ?_ | refine end_normal (ResP.tmp rfl ResP.nil) ?_
  (try dsimp only [tupV])
  exact ⟨(), _, rfl, ⟨⟨ky, pl + n, bk, false⟩, rfl, rfl, ⟨h1, h2, h3, fun h => by cases h⟩, rfl⟩, SubL.refl _⟩
end Go.Proofs.YtdhoboilpngnaaaDoor
