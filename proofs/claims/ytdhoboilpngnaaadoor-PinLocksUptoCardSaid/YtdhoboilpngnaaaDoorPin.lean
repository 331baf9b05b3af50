/- The package pin, walked: slices.Clone of bytes, mac.Same, Stretch. -/
import Derived.Test.YtdhoboilpngnaaaDoorMacD
import Derived.Test.YtdhoboilpngnaaaDoorSameMac
import Derived.Test.YtdhoboilpngnaaaDoorEqG
import Derived.Test.YtdhoboilpngnaaaDoorStage
namespace Go.Proofs.YtdhoboilpngnaaaDoor
open Go.RowKit
attribute [local irreducible] rwA bys iw
set_option linter.unusedVariables false
set_option linter.unusedSimpArgs false
theorem Cb.sl {w : World} {p : Option Addr} {n cap : Nat} {l : List Nat} (h : Cb w (.slice p n cap) n l) : Sl w p n (fun i => l.getD i 0) := by
  obtain ⟨q, c, hv, h1, h2, h3⟩ := h.cs.ln.out
  injection hv with e1 e2 e3
  subst e1; subst e3
  refine ⟨by simp only [maxLen] at h2; omega, fun i => ?_, fun i hi => ?_⟩
  · show l.getD i 0 < 256
    rw [List.getD_eq_getElem?_getD]
    cases hx : l[i]? with
    | none => simp
    | some x => exact h.ok.by' x (List.mem_of_getElem? hx)
  · obtain ⟨b, off, cap', hv, hc⟩ := h.cs.cell i _ (bl_get (l := l) (i := i) (by rw [h.ok.len]; exact hi))
    injection hv with e1 e2 e3
    exact ⟨b, off, e1, hc⟩
instance (priority := 700) {v : Value} {oa : Blks} [h : OwnL 5 1 v 0 [] oa] : OwnB 5 v 0 [] oa := ⟨h, BL.nil⟩
/-- mac.Same of two slices. -/
theorem same_g (w : World) {v u : Value} {n m : Nat} {p q : List Nat} {r : Bool} (hv : Cb w v n p) (hu : Cb w u m q) (hr : (p == q) = r) : Calls Tryd.prog 61 [v, u].toArray w (Ret (.bool r) w) := by
  obtain ⟨pv, cv, rfl, _, _, _⟩ := hv.cs.ln.out
  obtain ⟨pu, cu, rfl, _, _, _⟩ := hu.cs.ln.out
  have := MacSameWalk.same_mac pv n cv _ pu m cu _ w hv.sl hu.sl
  rwa [show MacSameWalk.same n m (fun i => p.getD i 0) (fun i => q.getD i 0) = r by
    rw [← hr, Bool.eq_iff_iff, MacSameWalk.same, decide_eq_true_iff, beq_iff_eq]
    have h1 := hv.ok.len
    have h2 := hu.ok.len
    constructor
    · rintro ⟨e, hl⟩
      refine List.ext_getElem (by omega) fun i a b => ?_
      have := hl i (by omega)
      simpa [List.getD, a, b] using this
    · rintro rfl
      exact ⟨by omega, fun i _ => rfl⟩] at this
set_option maxRecDepth 100000 in
set_option maxHeartbeats 4000000 in
theorem clone_b (w : World) {v : Value} {m : Nat} {p : List Nat} (h : Cb w v m p) (hm : m ≤ 1099511627776) :
    Calls Tryd.prog 38 [v].toArray w (RetO (fun u => u) (fun u oa => OwnB 5 u m p oa) w) := by
  have i1 := h.old
  obtain ⟨q, c, rfl, h1, h2, h3⟩ := h.cs.ln.out
  cases q with
  | none =>
    have hm0 : m = 0 := by
      rcases Nat.eq_zero_or_pos m with h0 | h0
      · exact h0
      · obtain ⟨_, _, hh⟩ := h3 h0; cases hh
    have hd0 : p = [] := List.eq_nil_of_length_eq_zero (by rw [h.ok.len, hm0])
    have E : ∀ w', (binOp .eql 23 (.slice none m c) (.slice none 0 0)).run Tryd.prog w' = .ok (.bool true) w' := fun w' => sl_nil (e := 5) (by kernel_rfl) w'
    clear h h3
    subst hm0; subst hd0
    refine fn_own (N := _) Tryd.func38 rfl Tryd.ntmps38 Tryd.results38 (by simp) ?_
    simp only [initS, Nat.reduceAdd, Nat.zero_add]
    repeat' (first | (with_reducible refine then_normal ?_) | ((with_reducible refine then_ret ?_); clear hK K) | ((with_reducible refine then_exit ?_); clear hK K) | (with_reducible refine then_exit ?_) | (with_reducible refine then_ret ?_) | (with_reducible refine inB_normal ?_) | (with_reducible refine inB_ret ?_) | (with_reducible refine inB_here ?_) | (with_reducible refine inB_out (by decide) ?_) | ((with_reducible refine hK _ _ ?_); clear hK K) | ((with_reducible refine sel_call ?_); first | (refine wl_appendB rfl rfl rfl rfl rfl ?_; intro v oa ho) | (refine wl_appendO rfl rfl rfl rfl rfl ?_; intro v oa ho) | refine wl_rd rfl rfl (RdV.rd (rd_lenO rfl rfl rfl rfl rfl)) ?_ | refine wl_rd rfl rfl (RdV.rd (rd_lenS rfl rfl rfl rfl rfl)) ?_) | ((with_reducible refine sel_bslice ?_); first | (refine wl_bsliceB rfl rfl rfl rfl ?_; intro v oa ho) | (refine wl_bslice rfl rfl rfl rfl ?_; intro v oa ho) | (refine wl_bsliceO rfl rfl rfl rfl ?_; intro v oa ho)) | ((with_reducible refine sel_b_eql ?_); first | refine wl_rd rfl rfl (RdV.rd (rd_eqlS rfl rfl rfl)) ?_ | refine wl_rd rfl rfl (RdV.rd (rd_cm rfl rfl rfl rfl)) ?_ | refine wl_rd rfl rfl (RdV.rd (rd_eqlB rfl rfl rfl (by first | with_reducible assumption | rfl))) ?_ | refine wl_rd rfl rfl (RdV.rd (rd_eqlG rfl rfl rfl (by with_reducible exact E))) ?_) | ((with_reducible refine sel_move ?_); first | refine wl_rd rfl rfl (RdV.rd (rd_move rfl rfl)) ?_) | ((with_reducible refine sel_assign ?_); first | refine wl_rd rfl rfl (RdV.rd (rd_assign rfl rfl)) ?_) | (refine wl_skip rfl rfl ?_) | ((with_reducible refine wc_seq ?_); intro K hK) | ((with_reducible refine wc_region ?_); (try simp only [List.append_eq, List.cons_append, List.nil_append])) | (with_reducible refine wc_block ?_) | (with_reducible refine wc_skip ?_) | (with_reducible refine wc_exit ?_) | (with_reducible refine wc_ret ?_) | (with_reducible refine wc_label ?_) | ((with_reducible refine sel_cond ?_); first | refine wc_true rfl ?_ | refine wc_false rfl ?_ | refine wc_cond rfl (fun hc => ?_) (fun hc => ?_)) | (with_reducible refine wl_nil ?_))
    first | refine end_ret (ResP.tmp rfl ResP.nil) ?_ | refine end_normal (ResP.tmp rfl ResP.nil) ?_
    (try dsimp only [tupV])
    exact ⟨_, _, rfl, ⟨OwnL.nil _ _, BL.nil⟩, .nil⟩
  | some a =>
    have E : ∀ w', (binOp .eql 23 (.slice (some a) m c) (.slice none 0 0)).run Tryd.prog w' = .ok (.bool false) w' := fun w' => sl_nil (e := 5) (by kernel_rfl) w'
    clear h h3
    refine fn_own (N := _) Tryd.func38 rfl Tryd.ntmps38 Tryd.results38 (by simp) ?_
    simp only [initS, Nat.reduceAdd, Nat.zero_add]
    repeat' (first | (with_reducible refine then_normal ?_) | ((with_reducible refine then_ret ?_); clear hK K) | ((with_reducible refine then_exit ?_); clear hK K) | (with_reducible refine then_exit ?_) | (with_reducible refine then_ret ?_) | (with_reducible refine inB_normal ?_) | (with_reducible refine inB_ret ?_) | (with_reducible refine inB_here ?_) | (with_reducible refine inB_out (by decide) ?_) | ((with_reducible refine hK _ _ ?_); clear hK K) | ((with_reducible refine sel_call ?_); first | (refine wl_appendB rfl rfl rfl rfl rfl ?_; intro v oa ho) | (refine wl_appendO rfl rfl rfl rfl rfl ?_; intro v oa ho) | refine wl_rd rfl rfl (RdV.rd (rd_lenO rfl rfl rfl rfl rfl)) ?_ | refine wl_rd rfl rfl (RdV.rd (rd_lenS rfl rfl rfl rfl rfl)) ?_) | ((with_reducible refine sel_bslice ?_); first | (refine wl_bsliceB rfl rfl rfl rfl ?_; intro v oa ho) | (refine wl_bslice rfl rfl rfl rfl ?_; intro v oa ho) | (refine wl_bsliceO rfl rfl rfl rfl ?_; intro v oa ho)) | ((with_reducible refine sel_b_eql ?_); first | refine wl_rd rfl rfl (RdV.rd (rd_eqlS rfl rfl rfl)) ?_ | refine wl_rd rfl rfl (RdV.rd (rd_cm rfl rfl rfl rfl)) ?_ | refine wl_rd rfl rfl (RdV.rd (rd_eqlB rfl rfl rfl (by first | with_reducible assumption | rfl))) ?_ | refine wl_rd rfl rfl (RdV.rd (rd_eqlG rfl rfl rfl (by with_reducible exact E))) ?_) | ((with_reducible refine sel_move ?_); first | refine wl_rd rfl rfl (RdV.rd (rd_move rfl rfl)) ?_) | ((with_reducible refine sel_assign ?_); first | refine wl_rd rfl rfl (RdV.rd (rd_assign rfl rfl)) ?_) | (refine wl_skip rfl rfl ?_) | ((with_reducible refine wc_seq ?_); intro K hK) | ((with_reducible refine wc_region ?_); (try simp only [List.append_eq, List.cons_append, List.nil_append])) | (with_reducible refine wc_block ?_) | (with_reducible refine wc_skip ?_) | (with_reducible refine wc_exit ?_) | (with_reducible refine wc_ret ?_) | (with_reducible refine wc_label ?_) | ((with_reducible refine sel_cond ?_); first | refine wc_true rfl ?_ | refine wc_false rfl ?_ | refine wc_cond rfl (fun hc => ?_) (fun hc => ?_)) | (with_reducible refine wl_nil ?_))
    first | refine end_ret (ResP.tmp rfl ResP.nil) ?_ | refine end_normal (ResP.tmp rfl ResP.nil) ?_
    (try dsimp only [tupV])
    exact ⟨_, _, rfl, by simpa using ho, SubL.refl _⟩
/-- A PIN, stretched. -/
def rounds (salt p : List Nat) : Nat → List Nat
  | 0 => mark salt p
  | n + 1 => mark salt (rounds salt p n ++ p)
def stretchD (salt p : List Nat) : List Nat := rounds salt p 8
theorem rounds_succ (salt p : List Nat) (n : Nat) : rounds salt p (n + 1) = (((newM salt).write (rounds salt p n)).write p).sum := by rw [rounds, mark, MS.write_app]
theorem rounds_len (salt p : List Nat) [ByL salt] [ByL p] : ∀ n, (rounds salt p n).length = 32 ∧ ByL (rounds salt p n)
  | 0 => ⟨(NBy.out : (mark salt p).length = 32), (inferInstance : ByL (mark salt p))⟩
  | n + 1 => by
    haveI := (rounds_len salt p n).2
    exact ⟨(NBy.out : (mark salt (rounds salt p n ++ p)).length = 32), (inferInstance : ByL (mark salt (rounds salt p n ++ p)))⟩
instance {salt p : List Nat} [ByL salt] [ByL p] {n : Nat} : NBy (rounds salt p n) 32 := ⟨(rounds_len salt p n).1⟩
instance {salt p : List Nat} [ByL salt] [ByL p] {n : Nat} : ByL (rounds salt p n) := (rounds_len salt p n).2
instance {salt p : List Nat} [ByL salt] [ByL p] : NBy (stretchD salt p) 32 := inferInstanceAs (NBy (rounds salt p 8) 32)
instance {salt p : List Nat} [ByL salt] [ByL p] : ByL (stretchD salt p) := inferInstanceAs (ByL (rounds salt p 8))
theorem rounds_zero (salt p : List Nat) : mark salt p = rounds salt p 0 := rfl
theorem stretch_eq (salt p : List Nat) : stretchD salt p = rounds salt p 8 := rfl
attribute [irreducible] rounds stretchD
set_option maxRecDepth 100000 in
set_option maxHeartbeats 1000000 in
theorem stretch_g (w : World) (hT : Tab w) (w' : World) (hb : Below w.heap.size w w') {u : Value} {m : Nat} {salt : List Nat} (hk : Cb w' u m salt) {v : Value} {n : Nat} {p : List Nat} (hq : Cb w' v n p) :
    Calls Tryd.prog 39 [u, v].toArray w' (Ret (.agg (bys (stretchD salt p))) w') := by
  have MG0 := fun w'' (h : Below w'.heap.size w' w'') => mark_g w' (hT.below hb) w'' h (hk.below h) (hq.below h)
  have NG := mnew_g w' (hT.below hb)
  have WG := mwrite_g w' (hT.below hb)
  have SG := msum_g w' (hT.below hb)
  have i1 := hq.old
  have i2 := hk.old
  haveI : ByL p := ⟨hq.ok.by'⟩
  haveI : ByL salt := ⟨hk.ok.by'⟩
  have e0 := rounds_zero salt p
  have e8 := stretch_eq salt p
  rw [e8]
  rw [e0] at MG0
  clear hb hT hq hk e0 e8
  refine fn_ret (N := _) Tryd.func39 rfl Tryd.ntmps39 Tryd.results39 (by simp) ?_
  simp only [initS, Nat.reduceAdd, Nat.zero_add]
  repeat' (first | (with_reducible refine then_normal ?_) | ((with_reducible refine then_ret ?_); clear hK K) | ((with_reducible refine then_exit ?_); clear hK K) | (with_reducible refine then_exit ?_) | (with_reducible refine then_ret ?_) | (with_reducible refine inB_normal ?_) | (with_reducible refine inB_ret ?_) | (with_reducible refine inB_here ?_) | (with_reducible refine inB_out (by decide) ?_) | ((with_reducible refine hK _ _ ?_); clear hK K) | ((with_reducible refine sel_load ?_); first | refine wl_rd rfl rfl (RdV.rd (rd_load rfl rfl ld_O)) ?_ | refine wl_rd rfl rfl (RdV.rd (rd_load rfl rfl ld_OR)) ?_ | refine wl_rd rfl rfl (RdV.rd (rd_load rfl rfl (ld_whole))) ?_ | refine wl_rd rfl rfl (RdV.rd (rd_load rfl rfl (ld_cell))) ?_ | refine wl_rd rfl rfl (RdV.rd (rd_load rfl rfl (ld_row))) ?_) | ((with_reducible refine sel_call ?_); first | (refine wl_appendB rfl rfl rfl rfl rfl ?_; intro v oa ho) | (refine wl_appendO rfl rfl rfl rfl rfl ?_; intro v oa ho) | refine wl_rd rfl rfl (rd_call rfl rfl rfl (fun w hm => by with_reducible exact MG0 w (hm.below rfl))) ?_ | refine wl_rd rfl rfl (RdV.rd (rd_lenO rfl rfl rfl rfl rfl)) ?_ | refine wl_rd rfl rfl (RdV.rd (rd_lenS rfl rfl rfl rfl rfl)) ?_) | ((with_reducible refine sel_move ?_); first | refine wl_rd rfl rfl (RdV.rd (rd_move rfl rfl)) ?_) | ((with_reducible refine sel_b_lss ?_); first | refine wl_rd rfl rfl (RdV.rd (rd_cm rfl rfl rfl rfl)) ?_) | ((with_reducible refine sel_b_add ?_); first | refine wl_rd rfl rfl (RdV.rd (rd_ar rfl rfl rfl rfl)) ?_) | ((with_reducible refine sel_alloc ?_); first | (refine wl_new rfl rfl (mk_allocC rfl) ?_; intro n hn) | (refine wl_new rfl rfl (mk_alloc rfl) ?_; intro n hn)) | ((with_reducible refine sel_store ?_); first | refine wl_store rfl rfl (sv_whole rfl rfl rfl) ?_ | refine wl_store rfl rfl (sv_cell rfl rfl rfl rfl) ?_ | refine wl_store rfl rfl (sv_row rfl rfl rfl rfl) ?_ | refine wl_store rfl rfl (sv_cell rfl rfl rfl One.out) ?_ | refine wl_store rfl rfl (sv_row rfl rfl rfl (by simp only [List.all_cons, List.all_nil, One.out, Bool.and_true])) ?_) | (refine wl_skip rfl rfl ?_) | ((with_reducible refine seld_call ?_); first | refine wd_rd hm0 rfl rfl rfl rfl (RdV.rd (rd_lenO rfl rfl rfl rfl rfl)) ?_ | refine wd_rd hm0 rfl rfl rfl rfl (rd_call rfl rfl rfl (fun w hm => by with_reducible exact MG0 w (hm.below rfl))) ?_ | refine wd_rd hm0 rfl rfl rfl rfl (RdV.rd (rd_lenS rfl rfl rfl rfl rfl)) ?_) | ((with_reducible refine seld_slice ?_); first | refine wd_rd hm0 rfl rfl rfl rfl (RdV.rd (rd_slA (lo := 0) rfl rfl rfl rfl rfl rfl)) ?_ | refine wd_rd hm0 rfl rfl rfl rfl (RdV.rd (rd_slA rfl rfl rfl rfl rfl rfl)) ?_) | ((with_reducible refine seld_move ?_); first | refine wd_move rfl rfl rfl rfl ?_) | ((with_reducible refine seld_store ?_); first | refine wd_row (clean' := true) hm0 rfl rfl rfl rfl rfl (fun _ => ⟨rfl, by assumption⟩) ?_ | refine wd_cell (clean' := true) hm0 rfl rfl rfl rfl rfl rfl (fun _ => ⟨rfl, by assumption⟩) ?_ | refine wd_cell (clean' := true) hm0 rfl rfl rfl rfl rfl One.out (fun _ => ⟨rfl, by assumption⟩) ?_ | refine wd_row (clean' := false) hm0 rfl rfl rfl rfl rfl (by intro h; cases h) ?_ | refine wd_cell (clean' := false) hm0 rfl rfl rfl rfl rfl rfl (by intro h; cases h) ?_ | refine wd_cell (clean' := false) hm0 rfl rfl rfl rfl rfl One.out (by intro h; cases h) ?_) | (refine wd_skip rfl rfl ?_) | ((with_reducible refine seld_nil ?_); refine wd_nil hm0 ?_; clear hm0 hw0) | ((with_reducible refine wc_seq ?_); intro K hK) | ((with_reducible refine wc_region ?_); (try simp only [List.append_eq, List.cons_append, List.nil_append])) | (with_reducible refine wc_block ?_) | (with_reducible refine wc_skip ?_) | (with_reducible refine wc_exit ?_) | (with_reducible refine wc_ret ?_) | (with_reducible refine wc_label ?_) | ((with_reducible refine sel_cond ?_); first | refine wc_true rfl ?_ | refine wc_false rfl ?_ | refine wc_cond rfl (fun hc => ?_) (fun hc => ?_)) | (with_reducible refine wl_nil ?_) | (refine wc_draw (by kernel_rfl) (by kernel_rfl) (by decide +kernel) ?_; intro w0 hw0 hm0; (try simp only [List.append_eq, List.cons_append, List.nil_append])))
  rename_i n2 hn2
  refine wc_loop (σ := Nat) (fun i => [(0, u), (1, v), (4, ptr n2), (5, ptr n), (9, .int .i64 (i : Int))])
    (fun i => [(n, (bys (rounds salt p i), 30)), (n2, (bys (List.replicate 32 0), 30))])
    (fun i => i ≤ 8) (fun i => 8 - i) 0 (Nat.zero_le _) (Fits.of ⟨rfl, rfl, rfl, rfl, rfl, trivial⟩ (SubL.refl _) rfl) ?_
  intro i hi
  by_cases hlt : i < 8
  · have t1 : decide ((i : Int) < 8) = true := decide_eq_true (by omega)
    have k1 : IntKind.i64.wrap ((i : Int) + 1) = ((i + 1 : Nat) : Int) := by rw [wrap_i64 _ (by omega) (by omega)]; omega
    haveI : BLc 32 (rounds salt p i) := ⟨⟨NBy.out, ByL.out⟩, by decide⟩
    have st := rounds_succ salt p i
    clear MG0
    repeat' (first | (with_reducible refine then_normal ?_) | ((with_reducible refine then_ret ?_); clear hK K) | ((with_reducible refine then_exit ?_); clear hK K) | (with_reducible refine then_exit ?_) | (with_reducible refine then_ret ?_) | (with_reducible refine inB_normal ?_) | (with_reducible refine inB_ret ?_) | (with_reducible refine inB_here ?_) | (with_reducible refine inB_out (by decide) ?_) | ((with_reducible refine hK _ _ ?_); clear hK K) | ((with_reducible refine sel_load ?_); first | refine wl_rd rfl rfl (RdV.rd (rd_load rfl rfl ld_O)) ?_ | refine wl_rd rfl rfl (RdV.rd (rd_load rfl rfl ld_OR)) ?_ | refine wl_rd rfl rfl (RdV.rd (rd_load rfl rfl (ld_whole))) ?_ | refine wl_rd rfl rfl (RdV.rd (rd_load rfl rfl (ld_cell))) ?_ | refine wl_rd rfl rfl (RdV.rd (rd_load rfl rfl (ld_row))) ?_) | ((with_reducible refine sel_slice ?_); first | (refine wl_subB (lo := 0) rfl rfl rfl rfl rfl rfl rfl rfl ?_; intro v hv hp) | (refine wl_subB rfl rfl rfl rfl rfl rfl rfl rfl ?_; intro v hv hp) | (refine wl_sub (lo := 0) rfl rfl rfl rfl rfl rfl rfl rfl ?_; intro v hv hp) | (refine wl_sub rfl rfl rfl rfl rfl rfl rfl rfl ?_; intro v hv hp) | refine wl_rd rfl rfl (RdV.rd (rd_slA (lo := 0) rfl rfl rfl rfl rfl rfl)) ?_ | refine wl_rd rfl rfl (RdV.rd (rd_slA rfl rfl rfl rfl rfl rfl)) ?_) | ((with_reducible refine sel_call ?_); first | (refine wl_appendB rfl rfl rfl rfl rfl ?_; intro v oa ho) | (refine wl_appendO rfl rfl rfl rfl rfl ?_; intro v oa ho) | refine wl_rd rfl rfl (rd_call rfl rfl rfl (fun w hm => by with_reducible exact NG w (hm.below rfl) (VwB.out w hm))) ?_ | refine wl_rd rfl rfl (rd_call rfl rfl rfl (fun w hm => by with_reducible exact WG w (hm.below rfl) (VwB.out w hm))) ?_ | refine wl_rd rfl rfl (rd_call rfl rfl rfl (fun w hm => by with_reducible exact SG w (hm.below rfl))) ?_ | refine wl_rd rfl rfl (RdV.rd (rd_lenO rfl rfl rfl rfl rfl)) ?_ | refine wl_rd rfl rfl (RdV.rd (rd_lenS rfl rfl rfl rfl rfl)) ?_) | ((with_reducible refine sel_move ?_); first | refine wl_rd rfl rfl (RdV.rd (rd_move rfl rfl)) ?_) | ((with_reducible refine sel_b_lss ?_); first | refine wl_rd rfl rfl (RdV.rd (rd_cm rfl rfl rfl rfl)) ?_) | ((with_reducible refine sel_b_add ?_); first | refine wl_rd rfl rfl (RdV.rd (rd_ar rfl rfl rfl rfl)) ?_) | ((with_reducible refine sel_alloc ?_); first | (refine wl_new rfl rfl (mk_alloc rfl) ?_; intro n hn)) | ((with_reducible refine sel_store ?_); first | refine wl_store rfl rfl (sv_whole rfl rfl rfl) ?_ | refine wl_store rfl rfl (sv_cell rfl rfl rfl rfl) ?_ | refine wl_store rfl rfl (sv_row rfl rfl rfl rfl) ?_ | refine wl_store rfl rfl (sv_cell rfl rfl rfl One.out) ?_ | refine wl_store rfl rfl (sv_row rfl rfl rfl (by simp only [List.all_cons, List.all_nil, One.out, Bool.and_true])) ?_) | (refine wl_skip rfl rfl ?_) | ((with_reducible refine wc_seq ?_); intro K hK) | ((with_reducible refine wc_region ?_); (try simp only [List.append_eq, List.cons_append, List.nil_append])) | (with_reducible refine wc_block ?_) | (with_reducible refine wc_skip ?_) | (with_reducible refine wc_exit ?_) | (with_reducible refine wc_ret ?_) | (with_reducible refine wc_label ?_) | ((with_reducible refine sel_cond ?_); first | refine wc_true rfl ?_ | refine wc_false rfl ?_ | refine wc_cond rfl (fun hc => ?_) (fun hc => ?_)) | (with_reducible refine wl_nil ?_) | ((with_reducible refine wc_drawT (by kernel_rfl) ?_); (try simp only [List.append_eq, List.cons_append, List.nil_append, List.length_cons, List.length_nil, Nat.reduceAdd])) | ((with_reducible refine sel_wh ?_); first | (refine wh_take (lq := []) rfl rfl rfl rfl (by first | ((with_reducible apply selr_call); first | exact rd_lenO rfl rfl rfl rfl rfl | exact rd_lenS rfl rfl rfl rfl rfl) | ((with_reducible apply selr_slice); first | exact rd_slA (lo := 0) rfl rfl rfl rfl rfl rfl | exact rd_slA rfl rfl rfl rfl rfl rfl) | ((with_reducible apply selr_move); first | exact rd_move rfl rfl)) (Or.inl rfl) ?_) | (refine wh_take rfl rfl rfl rfl (by first | ((with_reducible apply selr_call); first | exact rd_lenO rfl rfl rfl rfl rfl | exact rd_lenS rfl rfl rfl rfl rfl) | ((with_reducible apply selr_slice); first | exact rd_slA (lo := 0) rfl rfl rfl rfl rfl rfl | exact rd_slA rfl rfl rfl rfl rfl rfl) | ((with_reducible apply selr_move); first | exact rd_move rfl rfl)) (Or.inr ⟨rfl, by decide +kernel⟩) ?_) | (refine wh_pass rfl rfl rfl rfl ?_) | (refine wh_subB (lo := 0) rfl rfl rfl rfl rfl rfl rfl rfl rfl rfl ?_; intro v hv hp) | (refine wh_subB rfl rfl rfl rfl rfl rfl rfl rfl rfl rfl ?_; intro v hv hp) | (refine wh_sub (lo := 0) rfl rfl rfl rfl rfl rfl rfl rfl rfl rfl ?_; intro v hv hp) | (refine wh_sub rfl rfl rfl rfl rfl rfl rfl rfl rfl rfl ?_; intro v hv hp) | (refine wh_done rfl ?_) | (refine wh_all rfl ?_)) | ((with_reducible refine sel_rest ?_); first | exact rest_nil rfl | refine rest_cons rfl rfl ?_ ?_) | ((with_reducible refine sel_nx ?_); first | refine next_of ?_ | refine next_late (by decide +kernel) ?_))
    all_goals exact ⟨i + 1, hlt, by omega, Fits.of ⟨rfl, rfl, rfl, rfl, rfl, trivial⟩ (by rw [st]; exact SubL.refl _) rfl⟩
  · obtain rfl : i = 8 := by omega
    have t1 : decide (((8 : Nat) : Int) < 8) = false := by decide
    clear MG0 NG WG SG
    repeat' (first | (with_reducible refine then_normal ?_) | ((with_reducible refine then_ret ?_); clear hK K) | ((with_reducible refine then_exit ?_); clear hK K) | (with_reducible refine then_exit ?_) | (with_reducible refine then_ret ?_) | (with_reducible refine inB_normal ?_) | (with_reducible refine inB_ret ?_) | (with_reducible refine inB_here ?_) | (with_reducible refine inB_out (by decide) ?_) | ((with_reducible refine hK _ _ ?_); clear hK K) | ((with_reducible refine sel_load ?_); first | refine wl_rd rfl rfl (RdV.rd (rd_load rfl rfl ld_O)) ?_ | refine wl_rd rfl rfl (RdV.rd (rd_load rfl rfl ld_OR)) ?_ | refine wl_rd rfl rfl (RdV.rd (rd_load rfl rfl (ld_whole))) ?_ | refine wl_rd rfl rfl (RdV.rd (rd_load rfl rfl (ld_cell))) ?_ | refine wl_rd rfl rfl (RdV.rd (rd_load rfl rfl (ld_row))) ?_) | ((with_reducible refine sel_call ?_); first | (refine wl_appendB rfl rfl rfl rfl rfl ?_; intro v oa ho) | (refine wl_appendO rfl rfl rfl rfl rfl ?_; intro v oa ho) | refine wl_rd rfl rfl (RdV.rd (rd_lenO rfl rfl rfl rfl rfl)) ?_ | refine wl_rd rfl rfl (RdV.rd (rd_lenS rfl rfl rfl rfl rfl)) ?_) | ((with_reducible refine sel_move ?_); first | refine wl_rd rfl rfl (RdV.rd (rd_move rfl rfl)) ?_) | ((with_reducible refine sel_b_lss ?_); first | refine wl_rd rfl rfl (RdV.rd (rd_cm rfl rfl rfl rfl)) ?_) | ((with_reducible refine sel_b_add ?_); first | refine wl_rd rfl rfl (RdV.rd (rd_ar rfl rfl rfl rfl)) ?_) | ((with_reducible refine sel_alloc ?_); first | (refine wl_new rfl rfl (mk_allocC rfl) ?_; intro n hn) | (refine wl_new rfl rfl (mk_alloc rfl) ?_; intro n hn)) | ((with_reducible refine sel_store ?_); first | refine wl_store rfl rfl (sv_whole rfl rfl rfl) ?_ | refine wl_store rfl rfl (sv_cell rfl rfl rfl rfl) ?_ | refine wl_store rfl rfl (sv_row rfl rfl rfl rfl) ?_ | refine wl_store rfl rfl (sv_cell rfl rfl rfl One.out) ?_ | refine wl_store rfl rfl (sv_row rfl rfl rfl (by simp only [List.all_cons, List.all_nil, One.out, Bool.and_true])) ?_) | (refine wl_skip rfl rfl ?_) | ((with_reducible refine seld_call ?_); first | refine wd_rd hm0 rfl rfl rfl rfl (RdV.rd (rd_lenO rfl rfl rfl rfl rfl)) ?_ | refine wd_rd hm0 rfl rfl rfl rfl (RdV.rd (rd_lenS rfl rfl rfl rfl rfl)) ?_) | ((with_reducible refine seld_slice ?_); first | refine wd_rd hm0 rfl rfl rfl rfl (RdV.rd (rd_slA (lo := 0) rfl rfl rfl rfl rfl rfl)) ?_ | refine wd_rd hm0 rfl rfl rfl rfl (RdV.rd (rd_slA rfl rfl rfl rfl rfl rfl)) ?_) | ((with_reducible refine seld_move ?_); first | refine wd_move rfl rfl rfl rfl ?_) | ((with_reducible refine seld_store ?_); first | refine wd_row (clean' := true) hm0 rfl rfl rfl rfl rfl (fun _ => ⟨rfl, by assumption⟩) ?_ | refine wd_cell (clean' := true) hm0 rfl rfl rfl rfl rfl rfl (fun _ => ⟨rfl, by assumption⟩) ?_ | refine wd_cell (clean' := true) hm0 rfl rfl rfl rfl rfl One.out (fun _ => ⟨rfl, by assumption⟩) ?_ | refine wd_row (clean' := false) hm0 rfl rfl rfl rfl rfl (by intro h; cases h) ?_ | refine wd_cell (clean' := false) hm0 rfl rfl rfl rfl rfl rfl (by intro h; cases h) ?_ | refine wd_cell (clean' := false) hm0 rfl rfl rfl rfl rfl One.out (by intro h; cases h) ?_) | (refine wd_skip rfl rfl ?_) | ((with_reducible refine seld_nil ?_); refine wd_nil hm0 ?_; clear hm0 hw0) | ((with_reducible refine wc_seq ?_); intro K hK) | ((with_reducible refine wc_region ?_); (try simp only [List.append_eq, List.cons_append, List.nil_append])) | (with_reducible refine wc_block ?_) | (with_reducible refine wc_skip ?_) | (with_reducible refine wc_exit ?_) | (with_reducible refine wc_ret ?_) | (with_reducible refine wc_label ?_) | ((with_reducible refine sel_cond ?_); first | refine wc_true rfl ?_ | refine wc_false rfl ?_ | refine wc_cond rfl (fun hc => ?_) (fun hc => ?_)) | (with_reducible refine wl_nil ?_) | (refine wc_draw (by kernel_rfl) (by kernel_rfl) (by decide +kernel) ?_; intro w0 hw0 hm0; (try simp only [List.append_eq, List.cons_append, List.nil_append])))
    first | refine end_ret (ResP.cell rfl ld_whole ResP.nil) ?_ | refine end_normal (ResP.cell rfl ld_whole ResP.nil) ?_
    first | rfl | (show _ = _; rfl) | (simp only [tupV, *]; done)
end Go.Proofs.YtdhoboilpngnaaaDoor
