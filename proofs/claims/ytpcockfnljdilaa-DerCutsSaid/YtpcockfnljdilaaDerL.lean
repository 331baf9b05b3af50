/- The laws of items that are read: what they need. -/
import Derived.Test.YtpcockfnljdilaaDerRd
import Derived.Test.YtpcockfnljdilaaSame
namespace Go.Proofs.Ytpcockfnljdilaa
open Go.RowKit
set_option linter.unusedVariables false
set_option linter.unusedSimpArgs false
set_option maxRecDepth 100000
theorem read_yes (w : World) {u : Value} {m : Nat} {p : List Nat} (h : Cb w u m p) {l : List (Nat × List Nat)} (he : rdD p = (0, l)) :
    Calls Try.prog 19 [u].toArray w (RetO (fun x : Value × List It => .tuple #[x.1, .int .i64 0]) (fun x oa => x.2.map It.p = l ∧ OwnI 76 x.1 x.2 oa) w) :=
  (read_c w h).mono fun e w2 ⟨x, oa, he2, hx, hu⟩ => by
    rw [he] at hx
    rcases hx with ⟨_, h2, h3, h4⟩ | ⟨h1, _⟩
    · exact ⟨(x.1, x.2.2), oa, by rw [he2]; dsimp only; rw [h2], ⟨h3, h4⟩, hu⟩
    · exact absurd rfl h1
theorem read_no (w : World) {u : Value} {m e : Nat} {p : List Nat} (h : Cb w u m p) (he : (rdD p).1 = e) (h0 : e ≠ 0) :
    Calls Try.prog 19 [u].toArray w (Ret (.tuple #[.slice none 0 0, .int .i64 (e : Int)]) w) :=
  (read_c w h).mono fun e2 w2 ⟨x, oa, he2, hx, hu⟩ => by
    rcases hx with ⟨h1, _⟩ | ⟨h1, h2, h3, h4⟩
    · exact absurd (he.symm.trans h1) h0
    · subst h4
      refine ⟨?_, hu.below⟩
      rw [he2]; dsimp only
      rw [h2, h3, he]
set_option maxHeartbeats 2000000 in
/-- What is too large is not written, however large. -/
theorem write_no' (w : World) {v : Value} {l : List It} (h : Its w v l) (hf : ¬ fitsL (itP l)) : Calls Try.prog 18 [v].toArray w (Ret (.tuple #[.slice none 0 0, .int .i64 2]) w) := by
  by_cases hl : l.length ≤ 1152921504606846976
  · exact write_no w h hl hf
  · have i0 := h.cs.old
    have t0 : decide ((l.length : Int) > 200) = true := decide_eq_true (by omega)
    clear h hf
    refine fn_ret (N := _) Try.func18 rfl Try.ntmps18 Try.results18 (by simp) ?_
    simp only [initS, Nat.reduceAdd, Nat.zero_add]
    repeat' (first | (with_reducible refine then_normal ?_) | ((with_reducible refine then_ret ?_); clear hK K) | ((with_reducible refine then_exit ?_); clear hK K) | (with_reducible refine then_exit ?_) | (with_reducible refine then_ret ?_) | (with_reducible refine inB_normal ?_) | (with_reducible refine inB_ret ?_) | (with_reducible refine inB_here ?_) | (with_reducible refine inB_out (by decide) ?_) | ((with_reducible refine hK _ _ ?_); clear hK K) | ((with_reducible refine sel_indexA ?_); first | refine wl_rd rfl rfl (RdV.rd (rd_ixO rfl rfl rfl)) ?_ | refine wl_rd rfl rfl (RdV.rd (rd_ixA rfl rfl rfl)) ?_ | refine wl_rd rfl rfl (RdV.rd (rd_ixS rfl rfl rfl)) ?_) | ((with_reducible refine sel_fieldA ?_); first | refine wl_rd rfl rfl (RdV.rd (rd_fdO rfl rfl)) ?_ | refine wl_rd rfl rfl (RdV.rd (rd_fdA rfl rfl)) ?_) | ((with_reducible refine sel_load ?_); first | refine wl_rd rfl rfl (RdV.rd (rd_load rfl rfl ld_O)) ?_ | refine wl_rd rfl rfl (RdV.rd (rd_load rfl rfl ld_OR)) ?_ | refine wl_rd rfl rfl (RdV.rd (rd_load rfl rfl (ld_whole))) ?_ | refine wl_rd rfl rfl (RdV.rd (rd_load rfl rfl (ld_cell))) ?_ | refine wl_rd rfl rfl (RdV.rd (rd_load rfl rfl (ld_row))) ?_) | ((with_reducible refine sel_call ?_); first | (refine wl_appendB rfl rfl rfl rfl rfl ?_; intro v oa ho) | (refine wl_appendO rfl rfl rfl rfl rfl ?_; intro v oa ho) | refine wl_rd rfl rfl (RdV.rd (rd_lenO rfl rfl rfl rfl rfl)) ?_ | refine wl_rd rfl rfl (RdV.rd (rd_lenS rfl rfl rfl rfl rfl)) ?_) | ((with_reducible refine sel_bslice ?_); first | (refine wl_bsliceB rfl rfl rfl rfl ?_; intro v oa ho) | (refine wl_bslice rfl rfl rfl rfl ?_; intro v oa ho) | (refine wl_bsliceO rfl rfl rfl rfl ?_; intro v oa ho)) | ((with_reducible refine sel_conv ?_); first | refine wl_rd rfl rfl (RdV.rd (rd_convS rfl rfl)) ?_ | refine wl_rd rfl rfl (RdV.rd (rd_conv rfl rfl)) ?_) | ((with_reducible refine sel_move ?_); first | refine wl_rd rfl rfl (RdV.rd (rd_move rfl rfl)) ?_) | ((with_reducible refine sel_assign ?_); first | refine wl_rd rfl rfl (RdV.rd (rd_assign rfl rfl)) ?_) | ((with_reducible refine sel_b_lss ?_); first | refine wl_rd rfl rfl (RdV.rd (rd_cm rfl rfl rfl rfl)) ?_) | ((with_reducible refine sel_b_gtr ?_); first | refine wl_rd rfl rfl (RdV.rd (rd_cm rfl rfl rfl rfl)) ?_) | ((with_reducible refine sel_b_add ?_); first | refine wl_rd rfl rfl (RdV.rd (rd_ar rfl rfl rfl rfl)) ?_) | ((with_reducible refine sel_b_shr ?_); first | refine wl_rd rfl rfl (RdV.rd (rd_shr rfl rfl rfl)) ?_) | ((with_reducible refine sel_alloc ?_); first | (refine wl_new rfl rfl (mk_alloc rfl) ?_; intro n hn)) | ((with_reducible refine sel_store ?_); first | refine wl_store rfl rfl (sv_whole rfl rfl rfl) ?_ | refine wl_store rfl rfl (sv_cell rfl rfl rfl rfl) ?_ | refine wl_store rfl rfl (sv_row rfl rfl rfl rfl) ?_ | refine wl_store rfl rfl (sv_cell rfl rfl rfl One.out) ?_ | refine wl_store rfl rfl (sv_row rfl rfl rfl (by simp only [List.all_cons, List.all_nil, One.out, Bool.and_true])) ?_) | (refine wl_skip rfl rfl ?_) | ((with_reducible refine wc_seq ?_); intro K hK) | ((with_reducible refine wc_region ?_); (try simp only [List.append_eq, List.cons_append, List.nil_append])) | (with_reducible refine wc_block ?_) | (with_reducible refine wc_skip ?_) | (with_reducible refine wc_exit ?_) | (with_reducible refine wc_ret ?_) | (with_reducible refine wc_label ?_) | ((with_reducible refine sel_cond ?_); first | refine wc_true rfl ?_ | refine wc_false rfl ?_ | refine wc_cond rfl (fun hc => ?_) (fun hc => ?_)) | (with_reducible refine wl_nil ?_))
    first | refine end_ret (ResP.tmp rfl (ResP.tmp rfl ResP.nil)) ?_ | refine end_normal (ResP.tmp rfl (ResP.tmp rfl ResP.nil)) ?_
    first | rfl | (show _ = _; rfl) | (simp only [tupV, *]; done)
theorem rdD_wrL {P : List (Nat × List Nat)} (hf : fitsL P) (hs : (wrL P).length ≤ 65536) : rdD (wrL P) = (0, P) := by
  rw [rdD, if_neg (by omega), rdL_wrL P _ 0 hf.2 (by have := hf.1; omega) (Nat.le_refl _)]
theorem rdD_back {p : List Nat} (hb : ∀ y ∈ p, y < 256) (h : (rdD p).1 = 0) : wrL (rdD p).2 = p ∧ fitsL (rdD p).2 := by
  unfold rdD at h ⊢
  by_cases hl : p.length > 65536
  · rw [if_pos hl] at h; simp at h
  · rw [if_neg hl] at h ⊢
    obtain ⟨h1, h2, h3⟩ := rdL_back p.length 0 p hb (Nat.le_refl _) h (by omega)
    exact ⟨h1.symm, ⟨by omega, fun x hx => (h2 x hx).1⟩⟩
theorem fits_take {P : List (Nat × List Nat)} (h : fitsL P) (i : Nat) : fitsL (P.take i) := ⟨by rw [List.length_take]; have := h.1; omega, fun x hx => h.2 x (List.mem_of_mem_take hx)⟩
/-- How long the text of the first i items is. -/
def preL (P : List (Nat × List Nat)) (i : Nat) : Nat := (wrL (P.take i)).length
theorem preL_zero (P : List (Nat × List Nat)) : preL P 0 = 0 := rfl
theorem preL_succ {P : List (Nat × List Nat)} {i : Nat} {x : Nat × List Nat} (h : P[i]? = some x) : preL P (i + 1) = preL P i + (wr1 x).length := by rw [preL, wrL_snoc h, List.length_append]; rfl
theorem preL_all {P : List (Nat × List Nat)} {i : Nat} (h : P.length ≤ i) : preL P i = (wrL P).length := by rw [preL, List.take_of_length_le h]
theorem preL_lt {P : List (Nat × List Nat)} {i : Nat} (h : i < P.length) : preL P i < preL P (i + 1) := by
  rw [preL_succ (List.getElem?_eq_getElem h)]
  have := wr1_pos P[i]
  omega
theorem preL_mono {P : List (Nat × List Nat)} {i j : Nat} (h : i < j) (hj : j ≤ P.length) : preL P i < preL P j := by
  induction j with
  | zero => omega
  | succ j ih =>
    rcases Nat.lt_or_ge i j with h1 | h1
    · exact Nat.lt_trans (ih h1 (by omega)) (preL_lt (by omega))
    · obtain rfl : i = j := by omega
      exact preL_lt (by omega)
/-- A cut stands behind an item, or in one. -/
theorem cut_ways {P : List (Nat × List Nat)} {k : Nat} (hk : k ≤ (wrL P).length) : (∃ i, i ≤ P.length ∧ preL P i = k) ∨ ∃ i x, P[i]? = some x ∧ preL P i < k ∧ k < preL P (i + 1) := by
  have key : ∀ n, n ≤ P.length → (∃ i, i ≤ n ∧ preL P i = k) ∨ (∃ i x, P[i]? = some x ∧ preL P i < k ∧ k < preL P (i + 1)) ∨ preL P n < k := fun n => by
    induction n with
    | zero =>
      intro _
      by_cases h : k = 0
      · exact .inl ⟨0, Nat.le_refl _, by rw [preL_zero, h]⟩
      · exact .inr (.inr (by rw [preL_zero]; omega))
    | succ n ih =>
      intro hn
      rcases ih (by omega) with ⟨i, h1, h2⟩ | h | h
      · exact .inl ⟨i, by omega, h2⟩
      · exact .inr (.inl h)
      · rcases Nat.lt_trichotomy (preL P (n + 1)) k with h1 | h1 | h1
        · exact .inr (.inr h1)
        · exact .inl ⟨n + 1, Nat.le_refl _, h1⟩
        · exact .inr (.inl ⟨n, P[n], List.getElem?_eq_getElem (by omega), h, h1⟩)
  rcases key P.length (Nat.le_refl _) with h | h | h
  · exact .inl h
  · exact .inr h
  · rw [preL_all (Nat.le_refl _)] at h; omega
theorem wrL_split (P : List (Nat × List Nat)) (i : Nat) : wrL P = wrL (P.take i) ++ wrL (P.drop i) := by rw [← wrL_app, List.take_append_drop]
theorem cut_at {P : List (Nat × List Nat)} {i k : Nat} (h : preL P i = k) : (wrL P).take k = wrL (P.take i) := by
  rw [wrL_split P i, ← h, preL, List.take_left]
theorem cut_in {P : List (Nat × List Nat)} {i k : Nat} {x : Nat × List Nat} (hx : P[i]? = some x) (h1 : preL P i < k) (h2 : k < preL P (i + 1)) : (wrL P).take k = wrL (P.take i) ++ (wr1 x).take (k - preL P i) := by
  have e : P.drop i = [x] ++ P.drop (i + 1) := by
    have hi := (List.getElem?_eq_some_iff.1 hx).1
    rw [List.drop_eq_getElem_cons hi]
    have := (List.getElem?_eq_some_iff.1 hx).2
    rw [this]; rfl
  rw [preL_succ hx] at h2
  rw [wrL_split P i, e, wrL_app, wrL_one, List.take_append, List.take_of_length_le (by rw [preL] at h1; omega), show (wrL (P.take i)).length = preL P i from rfl, List.take_append_of_le_length (by omega)]
theorem rdD_cut {P : List (Nat × List Nat)} (hf : fitsL P) (hs : (wrL P).length ≤ 65536) {i k : Nat} {x : Nat × List Nat} (hx : P[i]? = some x) (h1 : preL P i < k) (h2 : k < preL P (i + 1)) : rdD ((wrL P).take k) = (3, []) := by
  have hi := (List.getElem?_eq_some_iff.1 hx).1
  have hfi := fits_take hf i
  have hl : ((wrL P).take k).length ≤ 65536 := by rw [List.length_take]; omega
  have hlen : ((wrL P).take k).length = (wrL (P.take i)).length + (k - preL P i) := by
    rw [cut_in hx h1 h2, List.length_append, List.length_take]
    have := preL_succ hx
    omega
  rw [rdD, if_neg (by omega)]
  have hfu : (wrL (P.take i)).length + (k - preL P i) ≤ ((wrL P).take k).length := by omega
  generalize ((wrL P).take k).length = F at *
  rw [cut_in hx h1 h2]
  have := preL_succ hx
  exact rdL_cut (P.take i) F 0 x (k - preL P i) hfi.2 (hf.2 x (List.mem_of_getElem? hx)) (by omega) (by omega) (by rw [List.length_take]; have := hf.1; omega) hfu
end Go.Proofs.Ytpcockfnljdilaa
