/- The laws of many blocks: what they need of ends, and of what is opened. -/
import Derived.Test.YtdmmbkhnhfcmcaaModeO
import Derived.Test.YtdmmbkhnhfcmcaaAesN
import Derived.Test.YtdmmbkhnhfcmcaaBeq
namespace Go.Proofs.Ytdmmbkhnhfcmcaa
open Go.RowKit
attribute [local irreducible] rwA bys
set_option linter.unusedVariables false
set_option linter.unusedSimpArgs false
set_option maxRecDepth 100000
theorem rep_getD {n x i : Nat} (h : i < n) : (List.replicate n x).getD i 0 = x := by simp [List.getD, h]
theorem padP_getD {p : List Nat} {i : Nat} (h1 : p.length ≤ i) (h2 : i < p.length + padN p) : (padP p).getD i 0 = padN p := by
  rw [padP, List.getD_eq_getElem?_getD, List.getElem?_append_right h1, ← List.getD_eq_getElem?_getD, rep_getD (by omega)]
theorem padP_len' (p : List Nat) : (padP p).length = p.length + padN p := by rw [padP, List.length_append, List.length_replicate]
theorem endN_pad (p : List Nat) : endN (padP p) = padN p := by
  have := padN_le p
  rw [endN, padP_len', padP_getD (by omega) (by omega)]
theorem endOk_pad (p : List Nat) : endOk (padP p) := by
  have := padN_le p
  refine ⟨by rw [endN_pad]; omega, by rw [endN_pad]; omega, fun j hj => ?_⟩
  rw [endN_pad] at hj ⊢
  rw [padP_len', padP_getD (by omega) (by omega)]
theorem pad_front (p : List Nat) : (padP p).take p.length = p := by rw [padP, List.take_left]
/-- What was cut off is put there again. -/
theorem pad_cut {P : List Nat} {q : Nat} (hl : P.length = 16 * q) (hq : 0 < q) (h : endOk P) : padP (P.take (16 * q - endN P)) = P := by
  obtain ⟨h1, h2, h3⟩ := h
  rw [hl] at h3
  have hlen : (P.take (16 * q - endN P)).length = 16 * q - endN P := by rw [List.length_take]; omega
  have hN : padN (P.take (16 * q - endN P)) = endN P := by rw [padN, hlen]; omega
  rw [padP, hN]
  refine (List.take_append_drop (16 * q - endN P) P).symm ▸ ?_
  have hd : P.drop (16 * q - endN P) = List.replicate (endN P) (endN P) := by
    refine List.ext_getElem (by rw [List.length_drop, List.length_replicate]; omega) fun i i1 i2 => ?_
    rw [List.length_replicate] at i2
    have := h3 i i2
    rw [List.getElem_drop, List.getElem_replicate]
    rw [List.getD_eq_getElem?_getD, List.getElem?_eq_getElem (by omega)] at this
    exact this
  conv => rhs; rw [← List.take_append_drop (16 * q - endN P) P, hd]
  simp
/-- A change ahead of the last two blocks leaves the end as it was. -/
theorem end_heal {E D : List Nat → List Nat} {iv p : List Nat} {a b : Nat} (h : EDok E D) (hi : B16 iv) (hp : ∀ x ∈ p, x < 256) (hb : b < 256) (ha : a + 32 < 16 * (p.length / 16 + 1)) :
    let M := p.length / 16 + 1
    let c := cflat E iv (padP p) M
    let P := dflat D iv (c.set a (c.getD a 0 ^^^ b)) M
    endOk P ∧ endN P = padN p ∧ ∀ i, i < p.length → i / 16 ≠ a / 16 → P.getD i 0 = p.getD i 0 ^^^ (if i = a + 16 then b else 0) := by
  intro M c P
  have hPl := padP_len p
  have hPb := padP_byl hp
  obtain ⟨hcl, hcb⟩ := cflat_ok h hi hPb M (by omega)
  have hop : dflat D iv c M = padP p := open_seal h hi hPb hPl
  have key : ∀ i, i < 16 * M → i / 16 ≠ a / 16 → P.getD i 0 = (padP p).getD i 0 ^^^ (if i = a + 16 then b else 0) := fun i h1 h2 => by
    rw [← hop]
    exact heal h hi hcb hb hcl (by omega) h1 h2
  have hPlen : P.length = 16 * M := by
    refine (dflat_ok h hi (c := c.set a (c.getD a 0 ^^^ b)) (fun y hy => ?_) M (by rw [List.length_set, hcl]; exact Nat.le_refl _)).1
    rcases List.mem_or_eq_of_mem_set hy with h1 | h1
    · exact hcb y h1
    · rw [h1]; exact xor_lt (bys8.get hcb a) hb
  have hn := padN_le p
  have hlp := padP_len' p
  have last : ∀ i, p.length ≤ i → i < 16 * M → P.getD i 0 = padN p := fun i h1 h2 => by
    rw [key i h2 (by omega), if_neg (by omega), Nat.xor_zero, padP_getD h1 (by omega)]
  have hend : endN P = padN p := by rw [endN, hPlen]; exact last _ (by omega) (by omega)
  refine ⟨⟨by omega, by omega, fun j hj => ?_⟩, hend, fun i h1 h2 => ?_⟩
  · rw [hend] at hj ⊢
    rw [hPlen]
    exact last _ (by omega) (by omega)
  · rw [key i (by omega) h2]
    congr 1
    rw [padP, List.getD_eq_getElem?_getD, List.getElem?_append_left h1, List.getD_eq_getElem?_getD]
section
variable {W iv c : List Nat} {R q : Nat} {E D : List Nat → List Nat} {u : Value}
theorem open_yes (w' : World) [hkk : AKey W] (hed : EDok E D) (DE : ∀ b, B16 b → ∀ w, Calls Try.prog 20 [kv W R, .agg (bys b)].toArray w (Ret (.agg (bys (D b))) w)) (hi : B16 iv) (hq0 : 0 < q) (hm : q ≤ 67108864) (h : Cb w' u (16 * q) c)
    {k : Nat} {p : List Nat} (hok : endOk (dflat D iv c q)) (hk : 16 * q - endN (dflat D iv c q) = k) (hp : (dflat D iv c q).take k = p) :
    Calls Try.prog 27 [kv W R, .agg (bys iv), u].toArray w' (RetO (fun v : Value => .tuple #[v, .int .i64 0]) (fun v oa => CsB (Hd oa) v k p) w') :=
  (open_c w' hed DE hi hq0 hm h).mono fun e w2 ⟨x, oa, he, hx, hu⟩ => by
    rcases hx with ⟨_, h2, h3⟩ | ⟨h1, _⟩
    · subst hp; subst hk
      exact ⟨x.1, oa, by rw [he]; dsimp only; rw [h2], h3, hu⟩
    · exact absurd hok h1
theorem open_no (w' : World) [hkk : AKey W] (hed : EDok E D) (DE : ∀ b, B16 b → ∀ w, Calls Try.prog 20 [kv W R, .agg (bys b)].toArray w (Ret (.agg (bys (D b))) w)) (hi : B16 iv) (hq0 : 0 < q) (hm : q ≤ 67108864) (h : Cb w' u (16 * q) c)
    (hok : ¬ endOk (dflat D iv c q)) : Calls Try.prog 27 [kv W R, .agg (bys iv), u].toArray w' (Ret (.tuple #[.slice none 0 0, .int .i64 4]) w') :=
  (open_c w' hed DE hi hq0 hm h).mono fun e w2 ⟨x, oa, he, hx, hu⟩ => by
    rcases hx with ⟨h1, _⟩ | ⟨_, h2, h3⟩
    · exact absurd h1 hok
    · subst h3; subst h2
      exact ⟨he, hu.below⟩
end
set_option maxHeartbeats 4000000 in
/-- The law's own helper. -/
theorem modes_c (w : World) : Calls Try.prog 24 [].toArray w (Ret (.bool true) w) := by
  have hpb : bys8 (List.replicate 16 0) := fun x hx => by rw [(List.mem_replicate.1 hx).2]; decide
  have hz : B16 (List.replicate 16 0) := B16.of (by simp) hpb
  haveI hkk : AKey (expW 4 (List.replicate 16 0)) := expW_ok (by simp) hpb (by decide) (by decide)
  have EX : ∀ {v : Value} w, Cb w v 16 (List.replicate 16 0) → Calls Try.prog 15 [v].toArray w (Ret (.tuple #[kv (expW 4 (List.replicate 16 0)) 10, .int .i64 0]) w) := fun w h => exp_c (m := 4) w (.inl rfl) h
  have hed := edok hkk.ok 10
  have EN : ∀ b, B16 b → ∀ w, Calls Try.prog 19 [kv (expW 4 (List.replicate 16 0)) 10, .agg (bys b)].toArray w (Ret (.agg (bys (encL (expW 4 (List.replicate 16 0)) 10 b))) w) := fun b hb w => enc_c w (by decide) hb
  have SE : ∀ w, Calls Try.prog 26 [kv (expW 4 (List.replicate 16 0)) 10, .agg (bys (List.replicate 16 0)), .slice none 0 0].toArray w (RetO (fun v => v) (fun v oa => OwnB 5 v 16 (cflat (encL (expW 4 (List.replicate 16 0)) 10) (List.replicate 16 0) (padP []) 1) oa) w) :=
    fun w => seal_c (m := 0) w hed EN hz (by decide) ⟨inferInstance |> fun (h : CsB (Hd []) (.slice none 0 0) 0 []) => h.cs.out w (fun p hp => by cases hp), BL.nil⟩
  have BZ : Value.agg #[.int .u8 0, .int .u8 0, .int .u8 0, .int .u8 0, .int .u8 0, .int .u8 0, .int .u8 0, .int .u8 0, .int .u8 0, .int .u8 0, .int .u8 0, .int .u8 0, .int .u8 0, .int .u8 0, .int .u8 0, .int .u8 0] = .agg (bys (List.replicate 16 0)) := by rw [bys]; rfl
  haveI : SgOk (sgA (expW 4 (List.replicate 16 0)) 10) := inferInstance
  clear EN hed
  generalize cflat (encL (expW 4 (List.replicate 16 0)) 10) (List.replicate 16 0) (padP []) 1 = C at *
  generalize expW 4 (List.replicate 16 0) = W at *
  refine fn_ret (N := _) Try.func24 rfl Try.ntmps24 Try.results24 (by simp) ?_
  simp only [initS, Nat.reduceAdd, Nat.zero_add]
  repeat' (first | (with_reducible refine then_normal ?_) | ((with_reducible refine then_ret ?_); clear hK K) | ((with_reducible refine then_exit ?_); clear hK K) | (with_reducible refine then_exit ?_) | (with_reducible refine then_ret ?_) | (with_reducible refine inB_normal ?_) | (with_reducible refine inB_ret ?_) | (with_reducible refine inB_here ?_) | (with_reducible refine inB_out (by decide) ?_) | ((with_reducible refine hK _ _ ?_); clear hK K) | ((with_reducible refine sel_load ?_); first | refine wl_rd rfl rfl (RdV.rd (rd_load rfl rfl ld_O)) ?_ | refine wl_rd rfl rfl (RdV.rd (rd_load rfl rfl ld_OR)) ?_ | refine wl_rd rfl rfl (RdV.rd (rd_load rfl rfl ld_wholeG)) ?_ | refine wl_rd rfl rfl (RdV.rd (rd_load rfl rfl ld_sg)) ?_ | refine wl_rd rfl rfl (RdV.rd (rd_load rfl rfl ld_sg1)) ?_ | refine wl_rd rfl rfl (RdV.rd (rd_load rfl rfl (ld_whole))) ?_ | refine wl_rd rfl rfl (RdV.rd (rd_load rfl rfl (ld_cell))) ?_ | refine wl_rd rfl rfl (RdV.rd (rd_load rfl rfl (ld_row))) ?_) | ((with_reducible refine sel_call ?_); first | (refine wl_appendB rfl rfl rfl rfl rfl ?_; intro v oa ho) | (refine wl_appendO rfl rfl rfl rfl rfl ?_; intro v oa ho) | refine wl_rd rfl rfl (rd_call rfl rfl rfl (fun w hm => by with_reducible exact EX w (VwB.out w hm))) ?_ | (refine wl_newO rfl rfl rfl rfl rfl (fun w hm => by with_reducible exact SE w) ?_; intro x oa hx) | refine wl_rd rfl rfl (RdV.rd (rd_lenO rfl rfl rfl rfl rfl)) ?_ | refine wl_rd rfl rfl (RdV.rd (rd_lenS rfl rfl rfl rfl rfl)) ?_) | ((with_reducible refine sel_build ?_); first | refine wl_rd rfl rfl (RdV.rd (rd_buildO rfl rfl rfl rfl rfl)) ?_ | refine wl_rd rfl rfl (RdV.rd (rd_buildH rfl rfl)) ?_ | refine wl_rd rfl rfl (RdV.rd (rd_cast (rd_buildA rfl rfl) BZ)) ?_ | refine wl_rd rfl rfl (RdV.rd (rd_buildA rfl rfl)) ?_ | refine wl_rd rfl rfl (RdV.rd (rd_buildS rfl rfl)) ?_) | ((with_reducible refine sel_b_eql ?_); first | refine wl_rd rfl rfl (RdV.rd (rd_eqlS rfl rfl rfl)) ?_ | refine wl_rd rfl rfl (RdV.rd (rd_cm rfl rfl rfl rfl)) ?_ | refine wl_rd rfl rfl (RdV.rd (rd_eqlB rfl rfl rfl (by first | with_reducible assumption | rfl))) ?_) | ((with_reducible refine sel_store ?_); first | refine wl_store rfl rfl (sv_wholeG rfl rfl rfl) ?_ | refine wl_store rfl rfl (sv_sg rfl rfl rfl) ?_ | refine wl_store rfl rfl (sv_sg1 rfl rfl rfl) ?_ | refine wl_store rfl rfl (sv_whole rfl rfl rfl) ?_ | refine wl_store rfl rfl (sv_cell rfl rfl rfl rfl) ?_ | refine wl_store rfl rfl (sv_row rfl rfl rfl rfl) ?_ | refine wl_store rfl rfl (sv_cell rfl rfl rfl One.out) ?_ | refine wl_store rfl rfl (sv_row rfl rfl rfl (by simp only [List.all_cons, List.all_nil, One.out, Bool.and_true])) ?_) | ((with_reducible refine sel_alloc ?_); first | (refine wl_new rfl rfl (mk_allocG rfl) ?_; intro n hn) | (refine wl_new rfl rfl (mk_alloc rfl) ?_; intro n hn)) | ((with_reducible refine sel_mslice ?_); first | (refine wl_makeB (n := 16) rfl rfl rfl rfl rfl ?_; intro v oa ho)) | ((with_reducible refine sel_move ?_); first | refine wl_rd rfl rfl (RdV.rd (rd_move rfl rfl)) ?_) | ((with_reducible refine sel_assign ?_); first | refine wl_rd rfl rfl (RdV.rd (rd_assign rfl rfl)) ?_) | ((with_reducible refine sel_pick ?_); first | refine wl_rd rfl rfl (RdV.rd (rd_pick rfl rfl rfl rfl rfl)) ?_) | ((with_reducible refine sel_extract ?_); first | refine wl_rd rfl rfl (RdV.rd (rd_extract rfl rfl)) ?_) | (refine wl_skip rfl rfl ?_) | ((with_reducible refine wc_seq ?_); intro K hK) | ((with_reducible refine wc_region ?_); (try simp only [List.append_eq, List.cons_append, List.nil_append])) | (with_reducible refine wc_block ?_) | (with_reducible refine wc_skip ?_) | (with_reducible refine wc_exit ?_) | (with_reducible refine wc_ret ?_) | (with_reducible refine wc_label ?_) | ((with_reducible refine sel_cond ?_); first | refine wc_true rfl ?_ | refine wc_false rfl ?_ | refine wc_cond rfl (fun hc => ?_) (fun hc => ?_)) | (with_reducible refine wl_nil ?_))
  first | refine end_ret (ResP.tmp rfl ResP.nil) ?_ | refine end_normal (ResP.tmp rfl ResP.nil) ?_
  first | rfl | (show _ = _; rfl) | (simp only [tupV, *]; done)
end Go.Proofs.Ytdmmbkhnhfcmcaa
