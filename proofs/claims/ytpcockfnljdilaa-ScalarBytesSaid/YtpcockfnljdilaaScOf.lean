/- scalar.Of, walked; appends to a slice that is full. -/
import Derived.Test.YtpcockfnljdilaaScalar
import Derived.Test.YtpcockfnljdilaaMake
import Derived.Test.YtpcockfnljdilaaBv
import Derived.Test.YtpcockfnljdilaaLwH
import Derived.Test.YtpcockfnljdilaaTyS
import Derived.Test.YtpcockfnljdilaaSl
namespace Go.Proofs.Ytpcockfnljdilaa
open Go.RowKit
set_option linter.unusedVariables false
set_option linter.unusedSimpArgs false
set_option maxRecDepth 100000
/-! ### Bytes as a number -/
def gf (p : List Nat) (i : Nat) : Nat := p.getD i 0
def fbl (p : List Nat) : Nat := fb (gf p) p.length
theorem gf_lt {n : Nat} {p : List Nat} (h : BL n p) (i : Nat) : gf p i < 256 := by
  unfold gf
  rw [List.getD_eq_getElem?_getD]
  cases hx : p[i]? with
  | none => simp
  | some x => exact h.by' x (List.mem_of_getElem? hx)
theorem fb_congr {f g : Nat → Nat} : ∀ {k : Nat}, (∀ i, i < k → f i = g i) → fb f k = fb g k
  | 0, _ => rfl
  | k + 1, h => by
    rw [fb, fb, fb_congr (fun i hi => h i (by omega)), h k (by omega)]
theorem fb_add (f : Nat → Nat) (n : Nat) : ∀ k, fb f (n + k) = fb f n + 2 ^ (8 * n) * fb (fun i => f (n + i)) k
  | 0 => by simp [fb]
  | k + 1 => by
    rw [← Nat.add_assoc, fb, fb, fb_add f n k, Nat.mul_add 8, Nat.pow_add, Nat.mul_add (2 ^ (8 * n)), Nat.mul_left_comm (f (n + k)), Nat.add_assoc]
theorem fb_zero : ∀ k, fb (fun _ => 0) k = 0
  | 0 => rfl
  | k + 1 => by rw [fb, fb_zero k]; simp
def lb (a : Nat) : List Nat := (List.range 32).map (byteN a)
theorem lb_len (a : Nat) : (lb a).length = 32 := by simp [lb]
theorem lb_ok (a : Nat) : BL 32 (lb a) := ⟨lb_len a, fun x hx => by
  obtain ⟨j, _, rfl⟩ := List.mem_map.1 hx
  exact byteN_lt a j⟩
theorem lb_get (a : Nat) {i : Nat} (h : i < 32) : gf (lb a) i = byteN a i := by simp [gf, lb, h]
theorem lb_cells (a : Nat) : bys (lb a) = byteCells (byteN a) := by
  unfold bys bl byteCells lb
  rw [List.map_map]; rfl
instance (a : Nat) : Cells (bys (lb a)) 32 := ⟨(seg_bys (lb_len a)).size, (seg_bys (lb_len a)).one⟩
instance (a : Nat) : SegL (bys (lb a)) 32 := seg_bys (lb_len a)
instance (a : Nat) : BLc 32 (lb a) := ⟨lb_ok a, by decide⟩
theorem fbl_lb {a : Nat} (h : a < T256) : fbl (lb a) = a := by
  unfold fbl
  rw [lb_len, fb_congr (fun i hi => lb_get a hi), fb_byteN, show 2 ^ (8 * 32) = T256 from T256_eq.symm, Nat.mod_eq_of_lt h]
theorem fbl_app (p q : List Nat) : fbl (p ++ q) = fbl p + 2 ^ (8 * p.length) * fbl q := by
  unfold fbl
  rw [List.length_append, fb_add]
  congr 1
  · exact fb_congr fun i hi => by simp [gf, List.getElem?_append, hi]
  · congr 1
    exact fb_congr fun i hi => by simp [gf, List.getElem?_append, show ¬ (p.length + i < p.length) by omega]
theorem fbl_rep (m : Nat) : fbl (List.replicate m 0) = 0 := by
  unfold fbl
  rw [fb_congr (g := fun _ => 0) (fun i hi => by
    rw [List.length_replicate] at hi
    simp [gf, List.getElem?_replicate, hi]), fb_zero]
theorem fbl_two {a b : Nat} (ha : a < T256) (hb : b < T256) : fbl (lb a ++ lb b) = a + T256 * b := by
  rw [fbl_app, fbl_lb ha, fbl_lb hb, lb_len, show 2 ^ (8 * 32) = T256 from T256_eq.symm]
theorem fbl_noughts {a : Nat} (ha : a < T256) (m : Nat) : fbl (lb a ++ List.replicate m 0) = a := by
  rw [fbl_app, fbl_lb ha, fbl_rep, Nat.mul_zero, Nat.add_zero]
set_option exponentiation.threshold 600 in
theorem fbl_lt {n : Nat} {p : List Nat} (h : BL n p) (hn : n ≤ 64) : fbl p < T512 := by
  have h1 := fb_lt (gf p) (gf_lt h) p.length
  refine Nat.lt_of_lt_of_le h1 ?_
  rw [T512_eq]
  exact Nat.pow_le_pow_right (by decide) (by rw [h.len]; omega)
theorem bytes_lb (a : Nat) (ha : a < T256) (w : World) : Calls Try.prog 23 [nu a].toArray w (Ret (.agg (bys (lb a))) w) := by
  have := bytes_all a ha w
  rw [nu_num, ← lb_cells] at this
  exact this
/-! ### Appends to a slice that is full -/
section
variable {X : Cx} {s : Slots} {l : Blks} {o : Oper} {v : Value} {Q : Post} {ops : Array Oper} {r : List Oper}
theorem full_cells {w : World} {b off n : Nat} {c : Nat} {p : List Nat} (h : Cb w (.slice (some ⟨b, off, none⟩) n c) n p) : ∀ j y, (bl p)[j]? = some y → w.cell? ((⟨b, off, none⟩ : Addr).add j) = some y := fun j y hj => by
  obtain ⟨b', off', cap', hv, hc⟩ := h.cs.cell j y hj
  injection hv with hv
  injection hv with hv
  injection hv with hb' ho'
  subst hb'; subst ho'
  rw [Addr.add_mid]; exact hc
theorem append_full {P : Program} {w : World} {t ty e bytes b off n m : Nat} {u : Value} {p q : List Nat} {z : Array Value}
    (ht : P.underlying t = some (.slice e)) (hei : EI P e 1 bytes z) (hv : Cb w (.slice (some ⟨b, off, none⟩) n n) n p) (hu : Cb w u m q) (h0 : 0 < m)
    (h63 : n + m ≤ maxLen) (hb : (n + m) * bytes ≤ 140737488355328) :
    ∃ v' w' oa', (Builtin.append_ #[t, t] ty #[.slice (some ⟨b, off, none⟩) n n, u]).run P w = .ok v' w' ∧ OwnB e v' (n + m) (p ++ q) oa' ∧ Upd w [] w' oa' := by
  obtain ⟨i, zv, hi, hsz, rfl, hz, rfl, hzs⟩ := hei.out
  obtain ⟨pu, cu, rfl, h1, h2, h3⟩ := hu.cs.ln.out
  obtain ⟨b', off', rfl⟩ := h3 h0
  have hsmall : n + m ≤ 9223372036854775807 := by simp only [maxLen] at h63; omega
  have hlp : (bl p).length = n * i.size := by rw [bl_len, hv.ok.len, hsz, Nat.mul_one]
  have hlq : (bl q).length = m * i.size := by rw [bl_len, hu.ok.len, hsz, Nat.mul_one]
  have hr := run_append_grow (P := P) w t ty e i zv ht hi hz ⟨b, off, none⟩ n n (bl p) hlp (full_cells hv) ⟨b', off', none⟩ m cu (bl q) hlq (full_cells hu) (by omega) (by omega) (growslice_fits (by omega) hb)
  have hge := grownCap_ge w (n + m) n e
  have hcl := grownCap_le_maxLen w (n + m) n e h63
  refine ⟨_, _, [(w.heap.size, (_, e))], hr, ⟨⟨by rw [bl_len, List.length_append, hv.ok.len, hu.ok.len, Nat.mul_one], .inr ⟨w.heap.size, _, _, rfl, hge, hcl, ?_, ?_, rfl⟩⟩, hv.ok.app hu.ok⟩, upd_new (w := w) (w1 := w.drew) rfl rfl rfl rfl [] _ e⟩
  · simp only [Array.size_append, List.size_toArray, size_zeroCells, hzs, hlp, hlq, hsz, Nat.mul_one]
    omega
  · simp only [Array.toList_append, List.append_assoc]
    rw [← List.append_assoc, ← bl_app]
    have : (bl (p ++ q)).length = (n + m) * 1 := by rw [bl_len, List.length_append, hv.ok.len, hu.ok.len, Nat.mul_one]
    rw [← this]
    exact List.take_left
theorem append_full0 {P : Program} {w : World} {t tn ty e bytes b off n m : Nat} {kn kv : IntKind} {p : List Nat}
    (ht : P.underlying t = some (.slice e)) (htn : P.underlying tn = some (.int kn)) (hei : EI P e 1 bytes #[.int .u8 0]) (hv : Cb w (.slice (some ⟨b, off, none⟩) n n) n p) (h0 : 0 < m)
    (h63 : n + m ≤ maxLen) (hb : (n + m) * bytes ≤ 140737488355328) :
    ∃ v' w' oa', (Builtin.append_ #[t, tn] ty #[.slice (some ⟨b, off, none⟩) n n, .int kv (m : Int)]).run P w = .ok v' w' ∧ OwnB e v' (n + m) (p ++ List.replicate m 0) oa' ∧ Upd w [] w' oa' := by
  obtain ⟨i, zv, hi, hsz, rfl, hz, hzc, hzs⟩ := hei.out
  have hsmall : n + m ≤ 9223372036854775807 := by simp only [maxLen] at h63; omega
  have hlp : (bl p).length = n * i.size := by rw [bl_len, hv.ok.len, hsz, Nat.mul_one]
  have hmb : m * i.bytes ≤ 140737488355328 := Nat.le_trans (Nat.mul_le_mul_right _ (by omega)) hb
  have hfc := run_firstCells_some (P := P) w.drew i.size n ⟨b, off, none⟩ n n (bl p) hlp (by simpa using full_cells hv)
  have hr := Lib.run_append_grow_zeros (P := P) w t tn ty e i zv kv kn ht htn hi hz (some ⟨b, off, none⟩) n n (bl p) hfc m (by omega) (by omega) (by omega) (by omega) (by omega) (growslice_fits (by omega) hb)
  have hge := grownCap_ge w (n + m) n e
  have hcl := grownCap_le_maxLen w (n + m) n e h63
  refine ⟨_, _, [(w.heap.size, (_, e))], hr, ⟨⟨by rw [bl_len, List.length_append, hv.ok.len, List.length_replicate, Nat.mul_one], .inr ⟨w.heap.size, _, _, rfl, hge, hcl, ?_, ?_, rfl⟩⟩, hv.ok.app (BL.rep m 0 (by decide))⟩, upd_new (w := w) (w1 := w.drew) rfl rfl rfl rfl [] _ e⟩
  · simp only [Array.size_append, List.size_toArray, size_zeroCells, hzc, hlp, hsz, Nat.mul_one]
    simp only [List.size_toArray, List.length_cons, List.length_nil]
    omega
  · simp only [Array.toList_append, hzc, zeros_one]
    rw [show List.replicate m (Value.int .u8 0) = bl (List.replicate m 0) from (bl_rep m 0).symm, ← bl_app]
    have : (bl (p ++ List.replicate m 0)).length = (n + m) * 1 := by rw [bl_len, List.length_append, hv.ok.len, List.length_replicate, Nat.mul_one]
    rw [← this]
    exact List.take_left
theorem wl_appendF {x y : Operand} {t e bytes b off n m : Nat} {z : Array Value} {u : Value} {p q : List Nat} {f : Blks → Blks} {s' : Value → Slots}
    (hg : gd s ops o = some true) (hd : dOk X.N o.dst = true) (hop : o.op = .call { callee := .builtin .append, args := #[x, y], argTypes := #[t, t] })
    (hx : val s x = some (.slice (some ⟨b, off, none⟩) n n)) (hy : val s y = some u) [ht : UT X.P t (.slice e)] [hei : EI X.P e 1 bytes z] [hv : VwB X l (.slice (some ⟨b, off, none⟩) n n) n p] [hu : VwB X l u m q] [hf : Snoc l f]
    (h : ∀ v' oa', OwnB e v' (n + m) (p ++ q) oa' → Wl X ops Q r (s' v') (f oa')) (h0 : 0 < m := by first | (with_reducible assumption) | omega | decide)
    (h63 : (n + m) * bytes ≤ 1152921504606846976 ∧ n + m ≤ 1152921504606846976 ∧ (n + m) * bytes ≤ 140737488355328 := by (refine ⟨?_, ?_, ?_⟩ <;> omega))
    (hs' : ∀ v', sputO s o.dst v' = s' v' := by intro _; (try dsimp only [sputO, sput, Nat.reduceBEq, cond_true, cond_false, beq_self_eq_true]); first | done | exact rfl) : Wl X ops Q (o :: r) s l := fun ac w hst => by
  obtain rfl : (fun v' => sputO s o.dst v') = s' := funext hs'
  have hw := gd_wanted hst.env hg
  haveI : Seg l [] f := ⟨l, [], by simp, fun o => by rw [hf.out, List.append_nil]⟩
  obtain ⟨v', w', oa', hr, ho', hup⟩ := append_full (ty := o.type) ht.out hei (hv.out w hst.mem) (hu.out w hst.mem) h0 (by simp only [maxLen]; omega) h63.2.2
  unfold wpList
  rw [if_pos hw]
  refine .inl ?_
  unfold Oper.wp
  have : (execOp ac.eval o).run X.P w = .ok (.value v') w' := by
    simp only [execOp, hop, resolve, invoke, builtin, Sem.run_bind, Sem.run_pure, Result.andThen_ok, List.map_toArray, List.map_cons, List.map_nil, hst.env.eval hx, hst.env.eval hy, hr]
  rw [this]
  exact h v' oa' ho' _ _ ⟨hst.env.put hd _, hup.mem hst.mem⟩
theorem wl_appendF0 {x y : Operand} {t tn e bytes b off n m : Nat} {kn kv : IntKind} {p : List Nat} {f : Blks → Blks} {s' : Value → Slots}
    (hg : gd s ops o = some true) (hd : dOk X.N o.dst = true) (hop : o.op = .call { callee := .builtin .append, args := #[x, y], argTypes := #[t, tn] })
    (hx : val s x = some (.slice (some ⟨b, off, none⟩) n n)) (hy : val s y = some (.int kv (m : Int))) [ht : UT X.P t (.slice e)] [htn : UT X.P tn (.int kn)] [hei : EI X.P e 1 bytes #[.int .u8 0]] [hv : VwB X l (.slice (some ⟨b, off, none⟩) n n) n p] [hf : Snoc l f]
    (h : ∀ v' oa', OwnB e v' (n + m) (p ++ List.replicate m 0) oa' → Wl X ops Q r (s' v') (f oa')) (h0 : 0 < m := by first | (with_reducible assumption) | omega | decide)
    (h63 : (n + m) * bytes ≤ 1152921504606846976 ∧ n + m ≤ 1152921504606846976 ∧ (n + m) * bytes ≤ 140737488355328 := by (refine ⟨?_, ?_, ?_⟩ <;> omega))
    (hs' : ∀ v', sputO s o.dst v' = s' v' := by intro _; (try dsimp only [sputO, sput, Nat.reduceBEq, cond_true, cond_false, beq_self_eq_true]); first | done | exact rfl) : Wl X ops Q (o :: r) s l := fun ac w hst => by
  obtain rfl : (fun v' => sputO s o.dst v') = s' := funext hs'
  have hw := gd_wanted hst.env hg
  haveI : Seg l [] f := ⟨l, [], by simp, fun o => by rw [hf.out, List.append_nil]⟩
  obtain ⟨v', w', oa', hr, ho', hup⟩ := append_full0 (ty := o.type) (kv := kv) ht.out htn.out hei (hv.out w hst.mem) h0 (by simp only [maxLen]; omega) h63.2.2
  unfold wpList
  rw [if_pos hw]
  refine .inl ?_
  unfold Oper.wp
  have : (execOp ac.eval o).run X.P w = .ok (.value v') w' := by
    simp only [execOp, hop, resolve, invoke, builtin, Sem.run_bind, Sem.run_pure, Result.andThen_ok, List.map_toArray, List.map_cons, List.map_nil, hst.env.eval hx, hst.env.eval hy, hr]
  rw [this]
  exact h v' oa' ho' _ _ ⟨hst.env.put hd _, hup.mem hst.mem⟩
/-- No nought is appended. -/
theorem rd_append00 {x y : Operand} {t tn e bytes b off n : Nat} {kn kv : IntKind} {z : Array Value} (hop : o.op = .call { callee := .builtin .append, args := #[x, y], argTypes := #[t, tn] })
    (hx : val s x = some (.slice (some ⟨b, off, none⟩) n n)) (hy : val s y = some (.int kv 0)) [ht : UT X.P t (.slice e)] [htn : UT X.P tn (.int kn)] [hei : EI X.P e 1 bytes z] : RdV X s l o (.slice (some ⟨b, off, none⟩) n n) := rd_val fun a w he hm => by
  obtain ⟨i, zv, hi, hsz, hby, hz, hzc, hzs⟩ := hei.out
  have hw0 : IntKind.i64.wrap 0 = 0 := by decide
  have hr : (Builtin.append_ #[t, tn] o.type #[.slice (some ⟨b, off, none⟩) n n, .int kv 0]).run X.P w = .ok (.slice (some ⟨b, off, none⟩) n n) w := by
    simp [Builtin.append_, run_underlying ht.out, run_underlying htn.out, sizeOf, typeInfo, hi, asInt, asIntOf, hw0, storeCells]
  simp only [execOp, hop, resolve, invoke, builtin, Sem.run_bind, Sem.run_pure, Result.andThen_ok, List.map_toArray, List.map_cons, List.map_nil, he.eval hx, he.eval hy, hr]
end
/-! ### The walk -/
set_option maxHeartbeats 4000000 in
theorem of_big (w : World) {u : Value} {n : Nat} {p : List Nat} (h : Cb w u n p) (hn : 64 < n) : Calls Try.prog 24 [u].toArray w (Ret (.tuple #[nu 0, .int .i64 2]) w) := by
  haveI i0 := h.old
  have t1 : decide ((n : Int) > 64) = true := decide_eq_true (by omega)
  clear h
  refine fn_ret (N := _) Try.func24 rfl Try.ntmps24 Try.results24 (by simp) ?_
  simp only [initS, Nat.reduceAdd, Nat.zero_add]
  repeat' (first | (with_reducible refine then_normal ?_) | ((with_reducible refine then_ret ?_); clear hK K) | ((with_reducible refine then_exit ?_); clear hK K) | (with_reducible refine then_exit ?_) | (with_reducible refine then_ret ?_) | (with_reducible refine inB_normal ?_) | (with_reducible refine inB_ret ?_) | (with_reducible refine inB_here ?_) | (with_reducible refine inB_out (by decide) ?_) | ((with_reducible refine hK _ _ ?_); clear hK K) | ((with_reducible refine sel_indexA ?_); first | refine wl_rd rfl rfl (RdV.rd (rd_ixO rfl rfl rfl)) ?_ | refine wl_rd rfl rfl (RdV.rd (rd_ixA rfl rfl rfl)) ?_ | refine wl_rd rfl rfl (RdV.rd (rd_ixS rfl rfl rfl)) ?_) | ((with_reducible refine sel_load ?_); first | refine wl_rd rfl rfl (RdV.rd (rd_load rfl rfl ld_O)) ?_ | refine wl_rd rfl rfl (RdV.rd (rd_load rfl rfl ld_OR)) ?_ | refine wl_rd rfl rfl (RdV.rd (rd_load rfl rfl (ld_whole))) ?_ | refine wl_rd rfl rfl (RdV.rd (rd_load rfl rfl (ld_cell))) ?_ | refine wl_rd rfl rfl (RdV.rd (rd_load rfl rfl (ld_row))) ?_) | ((with_reducible refine sel_call ?_); first | (refine wl_appendB rfl rfl rfl rfl rfl ?_; intro v oa ho) | (refine wl_appendO rfl rfl rfl rfl rfl ?_; intro v oa ho) | refine wl_rd rfl rfl (RdV.rd (rd_lenO rfl rfl rfl rfl rfl)) ?_ | refine wl_rd rfl rfl (RdV.rd (rd_lenS rfl rfl rfl rfl rfl)) ?_) | ((with_reducible refine sel_build ?_); first | refine wl_rd rfl rfl (RdV.rd (rd_buildO rfl rfl rfl rfl rfl)) ?_ | refine wl_rd rfl rfl (RdV.rd (rd_cast (rd_buildA rfl rfl) (by first | exact nu_l0 | exact nu_l1 | exact nu_l2 | exact nu_l3 | exact nu_l5 | exact nu_l7 | exact nu_l8 | exact nu_l9 | exact nu_l19 | exact nu_l38 | exact nu_l121665 | exact wi_l0 | exact wi_l3 | exact wi_l7 | exact wi_l15))) ?_ | refine wl_rd rfl rfl (RdV.rd (rd_buildA rfl rfl)) ?_ | refine wl_rd rfl rfl (RdV.rd (rd_buildS rfl rfl)) ?_) | ((with_reducible refine sel_conv ?_); first | refine wl_rd rfl rfl (RdV.rd (rd_convS rfl rfl)) ?_ | refine wl_rd rfl rfl (RdV.rd (rd_conv rfl rfl)) ?_) | ((with_reducible refine sel_move ?_); first | refine wl_rd rfl rfl (RdV.rd (rd_move rfl rfl)) ?_) | ((with_reducible refine sel_assign ?_); first | refine wl_rd rfl rfl (RdV.rd (rd_assign rfl rfl)) ?_) | ((with_reducible refine sel_b_lss ?_); first | refine wl_rd rfl rfl (RdV.rd (rd_cm rfl rfl rfl rfl)) ?_) | ((with_reducible refine sel_b_gtr ?_); first | refine wl_rd rfl rfl (RdV.rd (rd_cm rfl rfl rfl rfl)) ?_) | ((with_reducible refine sel_b_add ?_); first | refine wl_rd rfl rfl (RdV.rd (rd_ar rfl rfl rfl rfl)) ?_) | ((with_reducible refine sel_b_mul ?_); first | refine wl_rd rfl rfl (RdV.rd (rd_ar rfl rfl rfl rfl)) ?_) | ((with_reducible refine sel_b_or ?_); first | refine wl_rd rfl rfl (RdV.rd (rd_bw rfl rfl rfl rfl)) ?_) | ((with_reducible refine sel_b_shl ?_); first | refine wl_rd rfl rfl (RdV.rd (rd_shl rfl rfl rfl)) ?_) | ((with_reducible refine sel_b_quo ?_); first | refine wl_rd rfl rfl (RdV.rd (rd_quo rfl rfl rfl)) ?_) | ((with_reducible refine sel_b_rem ?_); first | refine wl_rd rfl rfl (RdV.rd (rd_rem rfl rfl rfl)) ?_) | ((with_reducible refine sel_alloc ?_); first | (refine wl_new rfl rfl (mk_allocC rfl) ?_; intro n hn) | (refine wl_new rfl rfl (mk_alloc rfl) ?_; intro n hn)) | ((with_reducible refine sel_store ?_); first | refine wl_store rfl rfl (sv_whole rfl rfl rfl) ?_ | refine wl_store rfl rfl (sv_cell rfl rfl rfl rfl) ?_ | refine wl_store rfl rfl (sv_row rfl rfl rfl rfl) ?_ | refine wl_store rfl rfl (sv_cell rfl rfl rfl One.out) ?_ | refine wl_store rfl rfl (sv_row rfl rfl rfl (by simp only [List.all_cons, List.all_nil, One.out, Bool.and_true])) ?_) | (refine wl_skip rfl rfl ?_) | ((with_reducible refine wc_seq ?_); intro K hK) | ((with_reducible refine wc_region ?_); (try simp only [List.append_eq, List.cons_append, List.nil_append])) | (with_reducible refine wc_block ?_) | (with_reducible refine wc_skip ?_) | (with_reducible refine wc_exit ?_) | (with_reducible refine wc_ret ?_) | (with_reducible refine wc_label ?_) | ((with_reducible refine sel_cond ?_); first | refine wc_true rfl ?_ | refine wc_false rfl ?_ | refine wc_cond rfl (fun hc => ?_) (fun hc => ?_)) | (with_reducible refine wl_nil ?_))
  first | refine end_ret (ResP.cell rfl ld_whole (ResP.tmp rfl ResP.nil)) ?_ | refine end_normal (ResP.cell rfl ld_whole (ResP.tmp rfl ResP.nil)) ?_
  first | rfl | (show _ = _; rfl) | (simp only [tupV, *]; done)
theorem fb_put (f : Nat → Nat) (hf : ∀ j, f j < 256) (k : Nat) (hk : k < 64) :
    putC (wideC (fb f k)) (k / 8) (.int .u64 (bits .or .u64 (limb (fb f k) (k / 8)) ((f k * 2 ^ (8 * (k % 8)) : Nat) : Int))) = wideC (fb f (k + 1)) := by
  have hk0 : 8 * (k / 8) + k % 8 = k := Nat.div_add_mod k 8
  have hr : k % 8 < 8 := Nat.mod_lt _ (by omega)
  have hup : f k * 2 ^ (8 * (k % 8)) < 2 ^ 64 := by
    have h1 : f k * 2 ^ (8 * (k % 8)) < 2 ^ 8 * 2 ^ (8 * (k % 8)) := Nat.mul_lt_mul_of_pos_right (hf k) (Nat.two_pow_pos _)
    rw [← Nat.pow_add] at h1
    exact Nat.lt_of_lt_of_le h1 (Nat.pow_le_pow_right (by decide) (by omega))
  refine wideC_put _ _ _ _ (by omega) ?_ fun i hi hne => ?_
  · have := fb_lw_same f hf (k / 8) (k % 8) hr
    rw [hk0, Nat.mul_comm (k % 8) 8, Nat.mod_eq_of_lt hup] at this
    rw [limb_lw, limb_lw, int_or _ _ (lw_lt _ _) (by simpa using hup), this]
  · have := fb_lw_other f hf (k / 8) (k % 8) i hr hne
    rw [hk0] at this
    rw [limb_lw, limb_lw, this]
set_option maxHeartbeats 8000000 in
theorem of_ok (w : World) {u : Value} {c : Nat} {p : List Nat} (h : Cb w u c p) (hc : c ≤ 64) : Calls Try.prog 24 [u].toArray w (Ret (.tuple #[nu (slow (fbl p)), .int .i64 0]) w) := by
  haveI i0 := h.old
  have hl := h.ok.len
  have RC := reduceS (fbl p) (fbl_lt h.ok hc)
  have hby := gf_lt h.ok
  have t1 : decide ((c : Int) > 64) = false := decide_eq_false (by omega)
  have hE : fbl p = fb (gf p) c := by unfold fbl; rw [hl]
  rw [hE] at RC ⊢
  have f0 : fb (gf p) 0 = 0 := rfl
  have hput := fun k hk => fb_put (gf p) hby k hk
  have hgb : ∀ k, k < c → (bl p)[k]? = some (.int .u8 ((gf p k : Nat) : Int)) := fun k hk => by simp [bl, gf, List.getD, show k < p.length by omega]
  generalize slow (fb (gf p) c) = R at *
  generalize gf p = f at *
  clear h hE hl
  refine fn_ret (N := _) Try.func24 rfl Try.ntmps24 Try.results24 (by simp) ?_
  simp only [initS, Nat.reduceAdd, Nat.zero_add]
  repeat' (first | (with_reducible refine then_normal ?_) | ((with_reducible refine then_ret ?_); clear hK K) | ((with_reducible refine then_exit ?_); clear hK K) | (with_reducible refine then_exit ?_) | (with_reducible refine then_ret ?_) | (with_reducible refine inB_normal ?_) | (with_reducible refine inB_ret ?_) | (with_reducible refine inB_here ?_) | (with_reducible refine inB_out (by decide) ?_) | ((with_reducible refine hK _ _ ?_); clear hK K) | ((with_reducible refine sel_indexA ?_); first | refine wl_rd rfl rfl (RdV.rd (rd_ixO rfl rfl rfl)) ?_ | refine wl_rd rfl rfl (RdV.rd (rd_ixA rfl rfl rfl)) ?_ | refine wl_rd rfl rfl (RdV.rd (rd_ixS rfl rfl rfl)) ?_) | ((with_reducible refine sel_load ?_); first | refine wl_rd rfl rfl (RdV.rd (rd_load rfl rfl ld_O)) ?_ | refine wl_rd rfl rfl (RdV.rd (rd_load rfl rfl ld_OR)) ?_ | refine wl_rd rfl rfl (RdV.rd (rd_load rfl rfl (ld_whole))) ?_ | refine wl_rd rfl rfl (RdV.rd (rd_load rfl rfl (ld_cell))) ?_ | refine wl_rd rfl rfl (RdV.rd (rd_load rfl rfl (ld_row))) ?_) | ((with_reducible refine sel_call ?_); first | (refine wl_appendB rfl rfl rfl rfl rfl ?_; intro v oa ho) | (refine wl_appendO rfl rfl rfl rfl rfl ?_; intro v oa ho) | refine wl_rd rfl rfl (RdV.rd (rd_lenO rfl rfl rfl rfl rfl)) ?_ | refine wl_rd rfl rfl (RdV.rd (rd_lenS rfl rfl rfl rfl rfl)) ?_) | ((with_reducible refine sel_build ?_); first | refine wl_rd rfl rfl (RdV.rd (rd_buildO rfl rfl rfl rfl rfl)) ?_ | refine wl_rd rfl rfl (RdV.rd (rd_cast (rd_buildA rfl rfl) (by first | exact nu_l0 | exact nu_l1 | exact nu_l2 | exact nu_l3 | exact nu_l5 | exact nu_l7 | exact nu_l8 | exact nu_l9 | exact nu_l19 | exact nu_l38 | exact nu_l121665 | exact wi_l0 | exact wi_l3 | exact wi_l7 | exact wi_l15))) ?_ | refine wl_rd rfl rfl (RdV.rd (rd_buildA rfl rfl)) ?_ | refine wl_rd rfl rfl (RdV.rd (rd_buildS rfl rfl)) ?_) | ((with_reducible refine sel_conv ?_); first | refine wl_rd rfl rfl (RdV.rd (rd_convS rfl rfl)) ?_ | refine wl_rd rfl rfl (RdV.rd (rd_conv rfl rfl)) ?_) | ((with_reducible refine sel_move ?_); first | refine wl_rd rfl rfl (RdV.rd (rd_move rfl rfl)) ?_) | ((with_reducible refine sel_assign ?_); first | refine wl_rd rfl rfl (RdV.rd (rd_assign rfl rfl)) ?_) | ((with_reducible refine sel_b_lss ?_); first | refine wl_rd rfl rfl (RdV.rd (rd_cm rfl rfl rfl rfl)) ?_) | ((with_reducible refine sel_b_gtr ?_); first | refine wl_rd rfl rfl (RdV.rd (rd_cm rfl rfl rfl rfl)) ?_) | ((with_reducible refine sel_b_add ?_); first | refine wl_rd rfl rfl (RdV.rd (rd_ar rfl rfl rfl rfl)) ?_) | ((with_reducible refine sel_b_mul ?_); first | refine wl_rd rfl rfl (RdV.rd (rd_ar rfl rfl rfl rfl)) ?_) | ((with_reducible refine sel_b_or ?_); first | refine wl_rd rfl rfl (RdV.rd (rd_bw rfl rfl rfl rfl)) ?_) | ((with_reducible refine sel_b_shl ?_); first | refine wl_rd rfl rfl (RdV.rd (rd_shl rfl rfl rfl)) ?_) | ((with_reducible refine sel_b_quo ?_); first | refine wl_rd rfl rfl (RdV.rd (rd_quo rfl rfl rfl)) ?_) | ((with_reducible refine sel_b_rem ?_); first | refine wl_rd rfl rfl (RdV.rd (rd_rem rfl rfl rfl)) ?_) | ((with_reducible refine sel_alloc ?_); first | (refine wl_new rfl rfl (mk_allocC rfl) ?_; intro n hn) | (refine wl_new rfl rfl (mk_alloc rfl) ?_; intro n hn)) | ((with_reducible refine sel_store ?_); first | refine wl_store rfl rfl (sv_whole rfl rfl rfl) ?_ | refine wl_store rfl rfl (sv_cell rfl rfl rfl rfl) ?_ | refine wl_store rfl rfl (sv_row rfl rfl rfl rfl) ?_ | refine wl_store rfl rfl (sv_cell rfl rfl rfl One.out) ?_ | refine wl_store rfl rfl (sv_row rfl rfl rfl (by simp only [List.all_cons, List.all_nil, One.out, Bool.and_true])) ?_) | (refine wl_skip rfl rfl ?_) | ((with_reducible refine wc_seq ?_); intro K hK) | ((with_reducible refine wc_region ?_); (try simp only [List.append_eq, List.cons_append, List.nil_append])) | (with_reducible refine wc_block ?_) | (with_reducible refine wc_skip ?_) | (with_reducible refine wc_exit ?_) | (with_reducible refine wc_ret ?_) | (with_reducible refine wc_label ?_) | ((with_reducible refine sel_cond ?_); first | refine wc_true rfl ?_ | refine wc_false rfl ?_ | refine wc_cond rfl (fun hc => ?_) (fun hc => ?_)) | (with_reducible refine wl_nil ?_))
  rename_i n2 g2
  obtain ⟨n4, rfl⟩ : ∃ n4, n4 = n := ⟨_, rfl⟩
  refine wc_loop (σ := Nat) (fun k => [(2, ptr n2), (4, ptr n4), (11, u), (12, .int .i64 (c : Int)), (13, .int .i64 (k : Int))])
    (fun k => [(n4, (wideC (fb f k), 55)), (n2, (numC 0, 31))])
    (fun k => k ≤ c) (fun k => c - k) 0 (Nat.zero_le _) (Fits.of ⟨rfl, rfl, rfl, rfl, rfl, trivial⟩ (by rw [f0]; exact SubL.refl _) rfl) ?_
  intro k hk
  by_cases hlt : k < c
  · have t2 : decide ((k : Int) < (c : Int)) = true := decide_eq_true (by omega)
    have t3 : IntKind.i64.wrap ((k : Int) + 1) = ((k + 1 : Nat) : Int) := by rw [wrap_i64 _ (by omega) (by omega)]; omega
    have q1 : IntKind.i64.wrap ((k : Int).tdiv 8) = ((k / 8 : Nat) : Int) := by rw [Int.tdiv_eq_ediv_of_nonneg (by omega), wrap_i64 _ (by omega) (by omega)]; omega
    have q2 : (k : Int).tmod 8 = ((k % 8 : Nat) : Int) := by rw [Int.tmod_eq_emod_of_nonneg (by omega)]; omega
    have q3 : IntKind.i64.wrap (((k % 8 : Nat) : Int) * 8) = ((8 * (k % 8) : Nat) : Int) := by rw [wrap_i64 _ (by omega) (by omega)]; omega
    have q4 : IntKind.u64.wrap ((8 * (k % 8) : Nat) : Int) = ((8 * (k % 8) : Nat) : Int) := by rw [wrap_u64 _ (by omega) (by omega)]
    have hb8 := hby k
    have q5 : IntKind.u64.wrap ((f k : Nat) : Int) = ((f k : Nat) : Int) := by rw [wrap_u64 _ (by omega) (by omega)]
    have hup : f k * 2 ^ (8 * (k % 8)) < 2 ^ 64 := by
      have h1 : f k * 2 ^ (8 * (k % 8)) < 2 ^ 8 * 2 ^ (8 * (k % 8)) := Nat.mul_lt_mul_of_pos_right hb8 (Nat.two_pow_pos _)
      rw [← Nat.pow_add] at h1
      exact Nat.lt_of_lt_of_le h1 (Nat.pow_le_pow_right (by decide) (by omega))
    have q6 : IntKind.u64.wrap (((f k : Nat) : Int) * 2 ^ (min ((8 * (k % 8) : Nat) : Int).toNat (IntKind.bits .u64))) = ((f k * 2 ^ (8 * (k % 8)) : Nat) : Int) := by
      rw [show min ((8 * (k % 8) : Nat) : Int).toNat (IntKind.bits .u64) = 8 * (k % 8) by show min _ 64 = _; omega, int_shl, Nat.mod_eq_of_lt hup]
    have j1 : (k : Int) < (c : Int) := by omega
    have j2 : ((k / 8 : Nat) : Int) < ((8 : Nat) : Int) := by omega
    have hp : 0 + ((k / 8 : Nat) : Int).toNat * 1 = k / 8 := by omega
    have gb := hgb k hlt
    have gw := wideC_get (fb f k) (k / 8) (by omega)
    have pw := hput k (by omega)
    clear hgb hput RC f0 hby hup
    repeat' (first | (with_reducible refine then_normal ?_) | ((with_reducible refine then_ret ?_); clear hK K) | ((with_reducible refine then_exit ?_); clear hK K) | (with_reducible refine then_exit ?_) | (with_reducible refine then_ret ?_) | (with_reducible refine inB_normal ?_) | (with_reducible refine inB_ret ?_) | (with_reducible refine inB_here ?_) | (with_reducible refine inB_out (by decide) ?_) | ((with_reducible refine hK _ _ ?_); clear hK K) | ((with_reducible refine sel_indexA ?_); first | refine wl_rd rfl rfl (RdV.rd (rd_ixO rfl rfl rfl)) ?_ | refine wl_rd rfl rfl (RdV.rd (rd_ixA rfl rfl rfl)) ?_ | refine wl_rd rfl rfl (RdV.rd (rd_ixS rfl rfl rfl)) ?_) | ((with_reducible refine sel_load ?_); first | refine wl_rd rfl rfl (RdV.rd (rd_load rfl rfl ld_O)) ?_ | refine wl_rd rfl rfl (RdV.rd (rd_load rfl rfl ld_OR)) ?_ | refine wl_rd rfl rfl (RdV.rd (rd_load rfl rfl (ld_whole))) ?_ | refine wl_rd rfl rfl (RdV.rd (rd_load rfl rfl (ld_cell))) ?_ | refine wl_rd rfl rfl (RdV.rd (rd_load rfl rfl (ld_row))) ?_) | ((with_reducible refine sel_call ?_); first | (refine wl_appendB rfl rfl rfl rfl rfl ?_; intro v oa ho) | (refine wl_appendO rfl rfl rfl rfl rfl ?_; intro v oa ho) | refine wl_rd rfl rfl (RdV.rd (rd_lenO rfl rfl rfl rfl rfl)) ?_ | refine wl_rd rfl rfl (RdV.rd (rd_lenS rfl rfl rfl rfl rfl)) ?_) | ((with_reducible refine sel_build ?_); first | refine wl_rd rfl rfl (RdV.rd (rd_buildO rfl rfl rfl rfl rfl)) ?_ | refine wl_rd rfl rfl (RdV.rd (rd_buildA rfl rfl)) ?_ | refine wl_rd rfl rfl (RdV.rd (rd_buildS rfl rfl)) ?_) | ((with_reducible refine sel_conv ?_); first | refine wl_rd rfl rfl (RdV.rd (rd_convS rfl rfl)) ?_ | refine wl_rd rfl rfl (RdV.rd (rd_conv rfl rfl)) ?_) | ((with_reducible refine sel_move ?_); first | refine wl_rd rfl rfl (RdV.rd (rd_move rfl rfl)) ?_) | ((with_reducible refine sel_assign ?_); first | refine wl_rd rfl rfl (RdV.rd (rd_assign rfl rfl)) ?_) | ((with_reducible refine sel_b_lss ?_); first | refine wl_rd rfl rfl (RdV.rd (rd_cm rfl rfl rfl rfl)) ?_) | ((with_reducible refine sel_b_gtr ?_); first | refine wl_rd rfl rfl (RdV.rd (rd_cm rfl rfl rfl rfl)) ?_) | ((with_reducible refine sel_b_add ?_); first | refine wl_rd rfl rfl (RdV.rd (rd_ar rfl rfl rfl rfl)) ?_) | ((with_reducible refine sel_b_mul ?_); first | refine wl_rd rfl rfl (RdV.rd (rd_ar rfl rfl rfl rfl)) ?_) | ((with_reducible refine sel_b_or ?_); first | refine wl_rd rfl rfl (RdV.rd (rd_bw rfl rfl rfl rfl)) ?_) | ((with_reducible refine sel_b_shl ?_); first | refine wl_rd rfl rfl (RdV.rd (rd_shl rfl rfl rfl)) ?_) | ((with_reducible refine sel_b_quo ?_); first | refine wl_rd rfl rfl (RdV.rd (rd_quo rfl rfl rfl)) ?_) | ((with_reducible refine sel_b_rem ?_); first | refine wl_rd rfl rfl (RdV.rd (rd_rem rfl rfl rfl)) ?_) | ((with_reducible refine sel_alloc ?_); first | (refine wl_new rfl rfl (mk_alloc rfl) ?_; intro n hn)) | ((with_reducible refine sel_store ?_); first | refine wl_store rfl rfl (sv_whole rfl rfl rfl) ?_ | refine wl_store rfl rfl (sv_cell rfl rfl rfl rfl) ?_ | refine wl_store rfl rfl (sv_row rfl rfl rfl rfl) ?_ | refine wl_store rfl rfl (sv_cell rfl rfl rfl One.out) ?_ | refine wl_store rfl rfl (sv_row rfl rfl rfl (by simp only [List.all_cons, List.all_nil, One.out, Bool.and_true])) ?_) | (refine wl_skip rfl rfl ?_) | ((with_reducible refine wc_seq ?_); intro K hK) | ((with_reducible refine wc_region ?_); (try simp only [List.append_eq, List.cons_append, List.nil_append])) | (with_reducible refine wc_block ?_) | (with_reducible refine wc_skip ?_) | (with_reducible refine wc_exit ?_) | (with_reducible refine wc_ret ?_) | (with_reducible refine wc_label ?_) | ((with_reducible refine sel_cond ?_); first | refine wc_true rfl ?_ | refine wc_false rfl ?_ | refine wc_cond rfl (fun hc => ?_) (fun hc => ?_)) | (with_reducible refine wl_nil ?_))
    exact ⟨k + 1, hlt, by omega, Fits.of ⟨rfl, rfl, rfl, rfl, rfl, trivial⟩ (SubL.refl _) rfl⟩
  · obtain rfl : k = c := by omega
    have t2 : decide ((k : Int) < (k : Int)) = false := decide_eq_false (by omega)
    clear hgb hput hby f0
    repeat' (first | (with_reducible refine then_normal ?_) | ((with_reducible refine then_ret ?_); clear hK K) | ((with_reducible refine then_exit ?_); clear hK K) | (with_reducible refine then_exit ?_) | (with_reducible refine then_ret ?_) | (with_reducible refine inB_normal ?_) | (with_reducible refine inB_ret ?_) | (with_reducible refine inB_here ?_) | (with_reducible refine inB_out (by decide) ?_) | ((with_reducible refine hK _ _ ?_); clear hK K) | ((with_reducible refine sel_indexA ?_); first | refine wl_rd rfl rfl (RdV.rd (rd_ixO rfl rfl rfl)) ?_ | refine wl_rd rfl rfl (RdV.rd (rd_ixA rfl rfl rfl)) ?_ | refine wl_rd rfl rfl (RdV.rd (rd_ixS rfl rfl rfl)) ?_) | ((with_reducible refine sel_load ?_); first | refine wl_rd rfl rfl (RdV.rd (rd_load rfl rfl ld_O)) ?_ | refine wl_rd rfl rfl (RdV.rd (rd_load rfl rfl ld_OR)) ?_ | refine wl_rd rfl rfl (RdV.rd (rd_load rfl rfl (ld_whole))) ?_ | refine wl_rd rfl rfl (RdV.rd (rd_load rfl rfl (ld_cell))) ?_ | refine wl_rd rfl rfl (RdV.rd (rd_load rfl rfl (ld_row))) ?_) | ((with_reducible refine sel_call ?_); first | (refine wl_appendB rfl rfl rfl rfl rfl ?_; intro v oa ho) | (refine wl_appendO rfl rfl rfl rfl rfl ?_; intro v oa ho) | refine wl_rd rfl rfl (rd_call rfl rfl rfl (fun w _ => by with_reducible exact RC w)) ?_ | refine wl_rd rfl rfl (RdV.rd (rd_lenO rfl rfl rfl rfl rfl)) ?_ | refine wl_rd rfl rfl (RdV.rd (rd_lenS rfl rfl rfl rfl rfl)) ?_) | ((with_reducible refine sel_build ?_); first | refine wl_rd rfl rfl (RdV.rd (rd_buildO rfl rfl rfl rfl rfl)) ?_ | refine wl_rd rfl rfl (RdV.rd (rd_buildA rfl rfl)) ?_ | refine wl_rd rfl rfl (RdV.rd (rd_buildS rfl rfl)) ?_) | ((with_reducible refine sel_conv ?_); first | refine wl_rd rfl rfl (RdV.rd (rd_convS rfl rfl)) ?_ | refine wl_rd rfl rfl (RdV.rd (rd_conv rfl rfl)) ?_) | ((with_reducible refine sel_move ?_); first | refine wl_rd rfl rfl (RdV.rd (rd_move rfl rfl)) ?_) | ((with_reducible refine sel_assign ?_); first | refine wl_rd rfl rfl (RdV.rd (rd_assign rfl rfl)) ?_) | ((with_reducible refine sel_b_lss ?_); first | refine wl_rd rfl rfl (RdV.rd (rd_cm rfl rfl rfl rfl)) ?_) | ((with_reducible refine sel_b_gtr ?_); first | refine wl_rd rfl rfl (RdV.rd (rd_cm rfl rfl rfl rfl)) ?_) | ((with_reducible refine sel_b_add ?_); first | refine wl_rd rfl rfl (RdV.rd (rd_ar rfl rfl rfl rfl)) ?_) | ((with_reducible refine sel_b_mul ?_); first | refine wl_rd rfl rfl (RdV.rd (rd_ar rfl rfl rfl rfl)) ?_) | ((with_reducible refine sel_b_or ?_); first | refine wl_rd rfl rfl (RdV.rd (rd_bw rfl rfl rfl rfl)) ?_) | ((with_reducible refine sel_b_shl ?_); first | refine wl_rd rfl rfl (RdV.rd (rd_shl rfl rfl rfl)) ?_) | ((with_reducible refine sel_b_quo ?_); first | refine wl_rd rfl rfl (RdV.rd (rd_quo rfl rfl rfl)) ?_) | ((with_reducible refine sel_b_rem ?_); first | refine wl_rd rfl rfl (RdV.rd (rd_rem rfl rfl rfl)) ?_) | ((with_reducible refine sel_alloc ?_); first | (refine wl_new rfl rfl (mk_alloc rfl) ?_; intro n hn)) | ((with_reducible refine sel_store ?_); first | refine wl_store rfl rfl (sv_whole rfl rfl rfl) ?_ | refine wl_store rfl rfl (sv_cell rfl rfl rfl rfl) ?_ | refine wl_store rfl rfl (sv_row rfl rfl rfl rfl) ?_ | refine wl_store rfl rfl (sv_cell rfl rfl rfl One.out) ?_ | refine wl_store rfl rfl (sv_row rfl rfl rfl (by simp only [List.all_cons, List.all_nil, One.out, Bool.and_true])) ?_) | (refine wl_skip rfl rfl ?_) | ((with_reducible refine wc_seq ?_); intro K hK) | ((with_reducible refine wc_region ?_); (try simp only [List.append_eq, List.cons_append, List.nil_append])) | (with_reducible refine wc_block ?_) | (with_reducible refine wc_skip ?_) | (with_reducible refine wc_exit ?_) | (with_reducible refine wc_ret ?_) | (with_reducible refine wc_label ?_) | ((with_reducible refine sel_cond ?_); first | refine wc_true rfl ?_ | refine wc_false rfl ?_ | refine wc_cond rfl (fun hc => ?_) (fun hc => ?_)) | (with_reducible refine wl_nil ?_))
    first | refine end_ret (ResP.cell rfl ld_whole (ResP.tmp rfl ResP.nil)) ?_ | refine end_normal (ResP.cell rfl ld_whole (ResP.tmp rfl ResP.nil)) ?_
    first | rfl | (show _ = _; rfl) | (simp only [tupV, *]; done)
end Go.Proofs.Ytpcockfnljdilaa
