/- What a []api.Share is that came in. Shares in another order; slices.Clone of shares. -/
import Derived.Test.YtglbnbdeoenilaaReads
import Derived.Test.YtglbnbdeoenilaaOpen
import Derived.Test.YtglbnbdeoenilaaShares
import Derived.Test.YtglbnbdeoenilaaEqG
import Derived.Test.YtglbnbdeoenilaaMake
namespace Go.Proofs.Ytglbnbdeoenilaa
open Go.RowKit Go.ChangeShapes Go.WideShapes
set_option linter.unusedVariables false
set_option maxRecDepth 100000
/-- Shares that came in. -/
structure ShI (w : World) (v : Value) (l : List (Int × Nat)) : Prop where
  cs : Shs w v l
  lt : ∀ q ∈ l, q.2 < T256
section
variable {W : World}
theorem cells_sh : Try.prog.cellsOf 35 = 5 := by kernel_rfl
theorem cells_ish : Try.prog.cellsOf 3 = 1 := by kernel_rfl
theorem cells_nsh : Try.prog.cellsOf 33 = 4 := by kernel_rfl
theorem rdg_numS : Rdg Try.prog W 33 fun cs b => ∃ y, y < T256 ∧ cs = (numC y).toList := fun H enc fuel cs x hx => by
  obtain ⟨zs, l0, q0, w0⟩ := cells_ints (t := 33) (e := 31) (n := 4) (k := .u64) (by kernel_rfl) (by kernel_rfl) (by kernel_rfl) cells_nsh hx
  obtain ⟨a, ha, ea⟩ := num_list l0 w0
  rw [nu_num] at ea
  have ea' : (zs.map (Value.int .u64)) = (numC a).toList := by
    have := congrArg (fun v => match v with | Value.agg c => c.toList | _ => []) ea
    simpa using this
  exact ⟨a, ha, by rw [q0, ea']⟩
theorem rdg_share : Rdg Try.prog W 35 fun cs b => ∃ q : Int × Nat, q.2 < T256 ∧ cs = shE.enc q ∧ 1 ≤ b :=
  (rdg_struct2 Try.underlying35 (rdg_int (k := .i64) (by kernel_rfl)) rdg_numS).mono fun cs b ⟨b0, b1, hl, h0, h1, hb⟩ => by
    rw [cells_sh] at hl
    dsimp only at h0 h1
    rw [cells_ish] at h0
    rw [cells_nsh] at h1
    obtain ⟨z, hz, hw⟩ := h0
    obtain ⟨y, hy, hn⟩ := h1
    refine ⟨(z, y), hy, ?_, by omega⟩
    have e : cs = (cs.drop 0).take 1 ++ (cs.drop 1).take 4 := by
      rw [List.take_of_length_le (l := cs.drop 1) (by rw [List.length_drop, hl]; omega), List.drop_zero, List.take_append_drop]
    rw [e, hz, hn]
    show _ = rwL (sgH z y)
    simp [rwL]
theorem open_shs {r : Reach} {b0 : Nat} {v : Value} {H : Type} {enc : TypeId × Value → H} {d : DataW H} {q : List MemPlace} (hv : Value.okWide Try.prog W r b0 29 v) (h : DataW.Trod enc Try.prog W 0 (fun _ => true) true 29 v d q) :
    ∃ l : List (Int × Nat), ShI W v l ∧ l.length + 1 ≤ Rows.uptoBulk d := by
  obtain ⟨a, len, cap, rfl⟩ := okWide_slice (e := 35) (by kernel_rfl) hv
  obtain ⟨v', n, cc, h1, h2, h3, h4, h5⟩ := open_cell (r := r) (b0 := b0) (rdg_slice (e := 35) (by kernel_rfl) cells_sh (by decide) rdg_share) rfl h
  cases h1
  have key : ∀ l : List (List Value × Nat), (∀ c ∈ l, (∃ q : Int × Nat, q.2 < T256 ∧ c.1 = shE.enc q ∧ 1 ≤ c.2) ∧ c.1.length = 5) → ∃ its : List (Int × Nat), (l.map (·.1)).flatten = recs shE its ∧ its.length = l.length ∧ (∀ x ∈ its, x.2 < T256) ∧ l.length ≤ (l.map (·.2)).sum := by
    intro l
    induction l with
    | nil => intro _; exact ⟨[], rfl, rfl, by simp, by simp⟩
    | cons c r ih =>
      intro h
      obtain ⟨its, e1, e2, e3, e4⟩ := ih fun d hd => h d (by simp [hd])
      obtain ⟨⟨x, f1, f2, f4⟩, _⟩ := h c (by simp)
      refine ⟨x :: its, ?_, by simp [e2], fun y hy => ?_, by simp only [List.map_cons, List.sum_cons, List.length_cons]; omega⟩
      · rw [List.map_cons, List.flatten_cons, e1, f2, recs_cons]
      · rcases List.mem_cons.1 hy with rfl | hy
        · exact f1
        · exact e3 y hy
  obtain ⟨its, e1, e2, e3, e4⟩ := key cc h3
  rw [e1] at h4
  refine ⟨its, ⟨?_, e3⟩, by omega⟩
  show Cs W _ its.length _
  rw [e2, h2]; exact h4
end
end Go.Proofs.Ytglbnbdeoenilaa
namespace Go.Proofs.Ytglbnbdeoenilaa
open Go.RowKit
set_option linter.unusedVariables false
set_option linter.unusedSimpArgs false
set_option maxRecDepth 100000
theorem ShG.perm {l m : List (Int × Nat)} (hp : m.Perm l) : ShG m ↔ ShG l := by
  have h1 := (hp.map (·.1)).nodup_iff
  unfold ShG
  rw [h1]
  constructor
  · rintro ⟨a, b⟩; exact ⟨fun q hq => a q (hp.mem_iff.2 hq), b⟩
  · rintro ⟨a, b⟩; exact ⟨fun q hq => a q (hp.mem_iff.1 hq), b⟩
theorem shErr_perm {l m : List (Int × Nat)} (hp : m.Perm l) (x : Int) : shErr m x = shErr l x := by
  unfold shErr
  rw [hp.length_eq, show ShG m = ShG l from propext (ShG.perm hp)]
theorem ShG.nat {l : List (Int × Nat)} (h : ShG l) : ∃ l', l = liI l' ∧ ShOk l' ∧ ∀ q ∈ l', 1 ≤ q.1 ∧ q.1 < 256 ∧ q.2 < SLn := by
  have key : l = liI (l.map fun q => (q.1.toNat, q.2)) := by
    unfold liI
    rw [List.map_map]
    conv => lhs; rw [← List.map_id l]
    refine List.map_congr_left fun q hq => ?_
    have := (h.1 q hq).1
    show q = _
    rw [Function.comp]
    exact Prod.ext (by show q.1 = ((q.1.toNat : Nat) : Int); omega) rfl
  have h3 : ∀ q ∈ l.map (fun q : Int × Nat => (q.1.toNat, q.2)), 1 ≤ q.1 ∧ q.1 < 256 ∧ q.2 < SLn := fun q hq => by
    obtain ⟨r, hr, rfl⟩ := List.mem_map.1 hq
    have := h.1 r hr
    dsimp only
    omega
  refine ⟨_, key, ⟨fun q hq => ?_, ?_⟩, h3⟩
  · have := h3 q hq
    have h2 : 256 < SLn := by decide +kernel
    omega
  · have h2 := h.2
    rw [key] at h2
    have e : (liI (l.map fun q => (q.1.toNat, q.2))).map (·.1) = ((l.map fun q => (q.1.toNat, q.2)).map (·.1)).map (fun k : Nat => (k : Int)) := by
      simp [liI, Function.comp_def]
    rw [e] at h2
    rw [List.nodup_iff_pairwise_ne] at h2 ⊢
    rw [List.pairwise_map] at h2
    exact h2.imp fun hne he => hne (by rw [he])
theorem shErr_zero {l : List (Int × Nat)} {x : Int} (h : shErr l x = 0) : l.length ≤ 20 ∧ 0 < l.length ∧ 0 ≤ x ∧ x ≤ 255 ∧ ShG l := by
  unfold shErr at h
  by_cases h1 : 20 < l.length
  · rw [if_pos h1] at h; cases h
  · rw [if_neg h1] at h
    by_cases h2 : l.length = 0 ∨ x < 0 ∨ x > 255 ∨ ¬ ShG l
    · rw [if_pos h2] at h; cases h
    · simp only [not_or, Classical.not_not] at h2
      obtain ⟨a, b, c, d⟩ := h2
      exact ⟨by omega, by omega, by omega, by omega, d⟩
theorem shErr_of {l : List (Int × Nat)} {x : Int} (h1 : l.length ≤ 20) (h2 : 0 < l.length) (h3 : 0 ≤ x) (h4 : x ≤ 255) (h5 : ShG l) : shErr l x = 0 := by
  unfold shErr
  rw [if_neg (by omega), if_neg]
  rintro (h | h | h | h)
  · omega
  · omega
  · omega
  · exact h h5
/-- Whatever is asked, it answers. -/
theorem at_any (w : World) {v : Value} {l : List (Int × Nat)} (h : Shs w v l) (hy : ∀ q ∈ l, q.2 < T256) (x : Int) : ∃ r, r < T256 ∧ Calls Try.prog 13 [v, .int .i64 x].toArray w (Ret (.tuple #[nu r, .int .i64 (shErr l x)]) w) := by
  by_cases hx : shErr l x = 0
  · obtain ⟨h1, h2, h3, h4, h5⟩ := shErr_zero hx
    obtain ⟨l', rfl, h6, h7⟩ := h5.nat
    obtain ⟨k, rfl⟩ := Int.eq_ofNat_of_zero_le h3
    refine ⟨shAt l' k, Nat.lt_trans (shAt_L _ _) SL_T, ?_⟩
    rw [hx]
    exact at_ok w h (fun q hq => ⟨(h7 q hq).2.1, Nat.lt_trans (h7 q hq).2.2 SL_T⟩) (by omega) hx
  · exact ⟨0, by decide, at_bad w h hy hx⟩
set_option maxHeartbeats 4000000 in
theorem clone_h (w : World) {v : Value} {m : Nat} {ls : List (Int × Nat)} (h : Cs w v m (recs shE ls)) (hl : ls.length = m) (hm : m ≤ 1048576) :
    Calls Try.prog 12 [v].toArray w (RetO (fun u => u) (fun u oa => OwnL 35 5 u m (recs shE ls) oa) w) := by
  have i1 := h.old
  have one := recs_one shE ls
  have hlen : (recs shE ls).length = m * 5 := by rw [recs_len, hl]
  obtain ⟨p, c, rfl, h1, h2, h3⟩ := h.ln.out
  cases p with
  | none =>
    have hm0 : m = 0 := by
      rcases Nat.eq_zero_or_pos m with h0 | h0
      · exact h0
      · obtain ⟨_, _, hh⟩ := h3 h0; cases hh
    have hd0 : ls = [] := List.eq_nil_of_length_eq_zero (by rw [hl, hm0])
    have E : ∀ w', (binOp .eql 29 (.slice none m c) (.slice none 0 0)).run Try.prog w' = .ok (.bool true) w' := fun w' => sl_nil (e := 35) (by kernel_rfl) w'
    clear h h3
    subst hm0; subst hd0
    refine fn_own (N := _) Try.func12 rfl Try.ntmps12 Try.results12 (by simp) ?_
    simp only [initS, Nat.reduceAdd, Nat.zero_add]
    repeat' (first | (with_reducible refine then_normal ?_) | ((with_reducible refine then_ret ?_); clear hK K) | ((with_reducible refine then_exit ?_); clear hK K) | (with_reducible refine then_exit ?_) | (with_reducible refine then_ret ?_) | (with_reducible refine inB_normal ?_) | (with_reducible refine inB_ret ?_) | (with_reducible refine inB_here ?_) | (with_reducible refine inB_out (by decide) ?_) | ((with_reducible refine hK _ _ ?_); clear hK K) | ((with_reducible refine sel_call ?_); first | (refine wl_appendB rfl rfl rfl rfl rfl ?_; intro v oa ho) | (refine wl_appendO rfl rfl rfl rfl rfl ?_; intro v oa ho) | refine wl_rd rfl rfl (RdV.rd (rd_lenO rfl rfl rfl rfl rfl)) ?_ | refine wl_rd rfl rfl (RdV.rd (rd_lenS rfl rfl rfl rfl rfl)) ?_) | ((with_reducible refine sel_bslice ?_); first | (refine wl_bsliceB rfl rfl rfl rfl ?_; intro v oa ho) | (refine wl_bslice rfl rfl rfl rfl ?_; intro v oa ho) | (refine wl_bsliceO rfl rfl rfl rfl ?_; intro v oa ho)) | ((with_reducible refine sel_b_eql ?_); first | refine wl_rd rfl rfl (RdV.rd (rd_eqlS rfl rfl rfl)) ?_ | refine wl_rd rfl rfl (RdV.rd (rd_cm rfl rfl rfl rfl)) ?_ | refine wl_rd rfl rfl (RdV.rd (rd_eqlB rfl rfl rfl (by first | with_reducible assumption | rfl))) ?_ | refine wl_rd rfl rfl (RdV.rd (rd_eqlG rfl rfl rfl (by with_reducible exact E))) ?_) | ((with_reducible refine sel_move ?_); first | refine wl_rd rfl rfl (RdV.rd (rd_move rfl rfl)) ?_) | ((with_reducible refine sel_assign ?_); first | refine wl_rd rfl rfl (RdV.rd (rd_assign rfl rfl)) ?_) | (refine wl_skip rfl rfl ?_) | ((with_reducible refine wc_seq ?_); intro K hK) | ((with_reducible refine wc_region ?_); (try simp only [List.append_eq, List.cons_append, List.nil_append])) | (with_reducible refine wc_block ?_) | (with_reducible refine wc_skip ?_) | (with_reducible refine wc_exit ?_) | (with_reducible refine wc_ret ?_) | (with_reducible refine wc_label ?_) | ((with_reducible refine sel_cond ?_); first | refine wc_true rfl ?_ | refine wc_false rfl ?_ | refine wc_cond rfl (fun hc => ?_) (fun hc => ?_)) | (with_reducible refine wl_nil ?_))
    first | refine end_ret (ResP.tmp rfl ResP.nil) ?_ | refine end_normal (ResP.tmp rfl ResP.nil) ?_
    (try dsimp only [tupV])
    exact ⟨_, _, rfl, OwnL.nil _ _, .nil⟩
  | some a =>
    have E : ∀ w', (binOp .eql 29 (.slice (some a) m c) (.slice none 0 0)).run Try.prog w' = .ok (.bool false) w' := fun w' => sl_nil (e := 35) (by kernel_rfl) w'
    clear h h3
    generalize recs shE ls = cs at *
    refine fn_own (N := _) Try.func12 rfl Try.ntmps12 Try.results12 (by simp) ?_
    simp only [initS, Nat.reduceAdd, Nat.zero_add]
    repeat' (first | (with_reducible refine then_normal ?_) | ((with_reducible refine then_ret ?_); clear hK K) | ((with_reducible refine then_exit ?_); clear hK K) | (with_reducible refine then_exit ?_) | (with_reducible refine then_ret ?_) | (with_reducible refine inB_normal ?_) | (with_reducible refine inB_ret ?_) | (with_reducible refine inB_here ?_) | (with_reducible refine inB_out (by decide) ?_) | ((with_reducible refine hK _ _ ?_); clear hK K) | ((with_reducible refine sel_call ?_); first | (refine wl_appendB rfl rfl rfl rfl rfl ?_; intro v oa ho) | (refine wl_appendO rfl rfl rfl rfl rfl ?_; intro v oa ho) | refine wl_rd rfl rfl (RdV.rd (rd_lenO rfl rfl rfl rfl rfl)) ?_ | refine wl_rd rfl rfl (RdV.rd (rd_lenS rfl rfl rfl rfl rfl)) ?_) | ((with_reducible refine sel_bslice ?_); first | (refine wl_bsliceB rfl rfl rfl rfl ?_; intro v oa ho) | (refine wl_bslice rfl rfl rfl rfl ?_; intro v oa ho) | (refine wl_bsliceO rfl rfl rfl rfl ?_; intro v oa ho)) | ((with_reducible refine sel_b_eql ?_); first | refine wl_rd rfl rfl (RdV.rd (rd_eqlS rfl rfl rfl)) ?_ | refine wl_rd rfl rfl (RdV.rd (rd_cm rfl rfl rfl rfl)) ?_ | refine wl_rd rfl rfl (RdV.rd (rd_eqlB rfl rfl rfl (by first | with_reducible assumption | rfl))) ?_ | refine wl_rd rfl rfl (RdV.rd (rd_eqlG rfl rfl rfl (by with_reducible exact E))) ?_) | ((with_reducible refine sel_move ?_); first | refine wl_rd rfl rfl (RdV.rd (rd_move rfl rfl)) ?_) | ((with_reducible refine sel_assign ?_); first | refine wl_rd rfl rfl (RdV.rd (rd_assign rfl rfl)) ?_) | (refine wl_skip rfl rfl ?_) | ((with_reducible refine wc_seq ?_); intro K hK) | ((with_reducible refine wc_region ?_); (try simp only [List.append_eq, List.cons_append, List.nil_append])) | (with_reducible refine wc_block ?_) | (with_reducible refine wc_skip ?_) | (with_reducible refine wc_exit ?_) | (with_reducible refine wc_ret ?_) | (with_reducible refine wc_label ?_) | ((with_reducible refine sel_cond ?_); first | refine wc_true rfl ?_ | refine wc_false rfl ?_ | refine wc_cond rfl (fun hc => ?_) (fun hc => ?_)) | (with_reducible refine wl_nil ?_))
    first | refine end_ret (ResP.tmp rfl ResP.nil) ?_ | refine end_normal (ResP.tmp rfl ResP.nil) ?_
    (try dsimp only [tupV])
    exact ⟨_, _, rfl, by simpa using ho, SubL.refl _⟩
end Go.Proofs.Ytglbnbdeoenilaa
