/- The package op, walked: Run, for streams, sealers, openers. -/
import Derived.Test.YtkendlnjaopbeaaGreatDoorJnAI
namespace Go.Proofs.YtkendlnjaopbeaaGreatDoor
open Go.RowKit
attribute [local irreducible] rwA bys
set_option linter.unusedVariables false
set_option linter.unusedSimpArgs false
set_option maxRecDepth 100000
theorem mm_st (g : Nat) (w : World) : (method (Tryz.prog.types.size + Made.depth) 104 (ptr g) "sealring/op.more").run Tryz.prog w = .ok (114, ptr g) w := by kernel_rfl
theorem me_st (g : Nat) (w : World) : (method (Tryz.prog.types.size + Made.depth) 104 (ptr g) "sealring/op.end").run Tryz.prog w = .ok (113, ptr g) w := by kernel_rfl
theorem mm_se (g : Nat) (w : World) : (method (Tryz.prog.types.size + Made.depth) 107 (ptr g) "sealring/op.more").run Tryz.prog w = .ok (123, ptr g) w := by kernel_rfl
theorem me_se (g : Nat) (w : World) : (method (Tryz.prog.types.size + Made.depth) 107 (ptr g) "sealring/op.end").run Tryz.prog w = .ok (122, ptr g) w := by kernel_rfl
theorem mm_op (g : Nat) (w : World) : (method (Tryz.prog.types.size + Made.depth) 110 (ptr g) "sealring/op.more").run Tryz.prog w = .ok (126, ptr g) w := by kernel_rfl
theorem me_op (g : Nat) (w : World) : (method (Tryz.prog.types.size + Made.depth) 110 (ptr g) "sealring/op.end").run Tryz.prog w = .ok (125, ptr g) w := by kernel_rfl
theorem as_st (g : Nat) (w : World) : (Instr.typeAssert (.iface 104 (ptr g)) 54 60 true).run Tryz.prog w = .ok (.tuple #[.nilIface, .bool false]) w := run_typeAssert_lacksB Tryz.underlying60 (by kernel_rfl) (by kernel_rfl) _ _ w
theorem as_se (g : Nat) (w : World) : (Instr.typeAssert (.iface 107 (ptr g)) 54 60 true).run Tryz.prog w = .ok (.tuple #[.nilIface, .bool false]) w := run_typeAssert_lacksB Tryz.underlying60 (by kernel_rfl) (by kernel_rfl) _ _ w
theorem as_op (g : Nat) (w : World) : (Instr.typeAssert (.iface 110 (ptr g)) 54 60 true).run Tryz.prog w = .ok (.tuple #[.nilIface, .bool false]) w := run_typeAssert_lacksB Tryz.underlying60 (by kernel_rfl) (by kernel_rfl) _ _ w
theorem RetPO.upd {T : Type} {mk : T → Value} {n : Nat} {c : Array Value} {t : TypeId} {Φ : T → Array Value → Blks → Prop} {P : Program} {f : Nat} {vs : Array Value} {w : World} (h : Calls P f vs w (RetPO mk n c t Φ w)) :
    Calls P f vs w (RetU mk [(n, (c, t))] (fun x ob => ∃ c' oX, ob = (n, (c', t)) :: oX ∧ Φ x c' oX) w) := h.mono fun e w2 ⟨x, c', oX, h1, h2, h3⟩ => ⟨x, _, h1, ⟨c', oX, rfl, h2⟩, h3⟩
theorem Hd.one {n : Nat} {c : Array Value} {t : TypeId} {r : Blks} {w : World} (h : Hd ((n, (c, t)) :: r) w) (htb : Nat.blt t BIG = true := by rfl) : w.heap[n]? = some (.cells c t) := (h _ List.mem_cons_self).trans (congrArg some (toObj_cells htb))
theorem keys_subR {x : Nat × (Array Value × TypeId)} {a b : Blks} (h : (keys (x :: (a ++ b))).Nodup) : (keys (x :: b)).Nodup := h.sublist (List.Sublist.map _ (List.Sublist.cons_cons _ (List.sublist_append_right _ _)))
theorem keys_subL {x : Nat × (Array Value × TypeId)} {a b : Blks} (h : (keys (x :: (a ++ b))).Nodup) : (keys (x :: a)).Nodup := h.sublist (List.Sublist.map _ (List.Sublist.cons_cons _ (List.sublist_append_left _ _)))
theorem Hd.subR {x : Nat × (Array Value × TypeId)} {a b : Blks} {w : World} (h : Hd (x :: (a ++ b)) w) : Hd (x :: b) w := fun p hp => h p (by rcases List.mem_cons.1 hp with h1 | h1; exact List.mem_cons.2 (.inl h1); exact List.mem_cons.2 (.inr (List.mem_append_right _ h1)))
theorem Hd.subL {x : Nat × (Array Value × TypeId)} {a b : Blks} {w : World} (h : Hd (x :: (a ++ b)) w) : Hd (x :: a) w := fun p hp => h p (by rcases List.mem_cons.1 hp with h1 | h1; exact List.mem_cons.2 (.inl h1); exact List.mem_cons.2 (.inr (List.mem_append_left _ h1)))
set_option maxHeartbeats 8000000 in
theorem run_st (w : World) {v : Value} {n : Nat} {p : List Nat} (hp : Cb w v n p) {W iv : List Nat} {R : Nat} [hkk : AKey W] (hR : R ≤ 14) (hi : B16 iv) (EX : ∀ w', Cb w' v n p → Calls Tryz.prog 25 [v].toArray w' (Ret (.tuple #[kv W R, .int .i64 0]) w'))
    {u : Value} {m : Nat} {q : List Nat} (hq : Cb w u m q) (hm : m ≤ 2048) :
    Calls Tryz.prog 14 [.int .i64 6, v, .agg (bys iv), u].toArray w (RetO (fun v : Value => .tuple #[v, .int .i64 0]) (fun v oa => CsB (Hd oa) v m (strL (encL W R) iv 0 q)) w) := by
  have i1 := hp.old
  have i2 := hq.old
  haveI : NBy iv 16 := ⟨hi.len⟩
  have NW : ∀ w', Cb w' v n p → Calls Tryz.prog 9 [.int .i64 6, v, .agg (bys iv)].toArray w' (RetO (fun b : Nat => .tuple #[ptr b, .int .i64 0]) (fun b oa => ∃ g, oa = [(b, (opC 104 g 0 false, 57)), (g, (rwA (sgSt W R iv 0), 106))]) w') :=
    fun w' h => new_w (kind := 6) w' (by decide) h hi (fun w' h => way_st w' h hi EX)
  clear hp
  refine fn_own (N := _) Tryz.func14 rfl Tryz.ntmps14 Tryz.results14 (by simp) ?_
  simp only [initS, Nat.reduceAdd, Nat.zero_add]
  repeat' (first | (refine wlS ?_) | (refine wlG ?_) | (refine wlB ?_) | (refine wlE ?_) | (refine efSvao ?_; intro v oa ho) | ((with_reducible refine sel_call ?_); first | (refine wl_newO rfl rfl rfl rfl rfl (fun w hm => by with_reducible exact NW w (VwB.out w hm)) ?_; intro x oa hx)) | (refine efBnn ?_; intro n hn) | (refine wl_skip rfl rfl ?_) | ((with_reducible refine wc_seq ?_); intro K hK) | (refine auC ?_) | (refine wc_cond rfl (fun hc => ?_) (fun hc => ?_)) | (refine wc_draw (by kernel_rfl) (by kernel_rfl) (by decide +kernel) ?_; intro w0 hw0 hm0; (try simp only [List.append_eq, List.cons_append, List.nil_append])) | (refine auP ?_) | ((refine auR ?_); clear hK K) | (refine auR ?_) | ((with_reducible refine hK _ _ ?_); clear hK K) | fail)
  obtain ⟨g, rfl⟩ := hx
  refine wl_updO rfl rfl rfl rfl rfl (fun w' hm' hw => up_w (ob := [(g, (rwA (sgSt W R iv 0), 106))]) (mm_st g) (by kernel_rfl) w w' (hm'.below rfl) (Mem.ndS hm') hw (Mem.freshS hm') hq (Nat.zero_add m) hm
    (fun w2 hb _ hd hf => RetPO.upd (st_more w w2 hb hR hi hd.one (hf g (by simp [keys])) (by omega) hq hm))) ?_
  rintro v1 oa ⟨o2, rfl, c', oX, rfl, hv1, rfl⟩
  rw [Nat.zero_add]
  repeat' (first | (refine wlS ?_) | (refine wlG ?_) | (refine wlB ?_) | (refine wlE ?_) | (refine efSvao ?_; intro v oa ho) | (refine efBnn ?_; intro n hn) | (refine wl_skip rfl rfl ?_) | ((with_reducible refine wc_seq ?_); intro K hK) | (refine auC ?_) | (refine wc_cond rfl (fun hc => ?_) (fun hc => ?_)) | (refine wc_draw (by kernel_rfl) (by kernel_rfl) (by decide +kernel) ?_; intro w0 hw0 hm0; (try simp only [List.append_eq, List.cons_append, List.nil_append])) | (refine auP ?_) | ((refine auR ?_); clear hK K) | (refine auR ?_) | ((with_reducible refine hK _ _ ?_); clear hK K) | fail)
  refine wl_updO rfl rfl rfl rfl rfl (fun w' hm' hw => fin_w (m := 0) (q := []) (many := m) (ob := (g, (rwA (sgSt W R iv m), 106)) :: oX) (Φ := fun v oa => v = .slice none 0 0 ∧ oa = []) (me_st g) (by kernel_rfl) (as_st g) w' (Mem.ndS hm') hw (by rintro _ _ ⟨rfl, rfl⟩; exact CsB.nil) (by omega)
    (fun w2 _ _ => (st_end w2 g).mono fun e w3 ⟨h1, h2⟩ => ⟨_, [], h1, ⟨rfl, rfl⟩, Upd.of_below h2 (by simp [keys]) (by simp [keys]) (fun p hp => by cases hp)⟩)) ?_
  rintro _ oa ⟨o3, rfl, rfl, rfl⟩
  haveI := hv1
  repeat' (first | (refine wlS ?_) | (refine wlG ?_) | (refine wlB ?_) | (refine wlE ?_) | (refine efSvao ?_; intro v oa ho) | (refine efM ?_) | (refine efMvao ?_; intro v oa ho) | (refine efBnn ?_; intro n hn) | (refine wl_skip rfl rfl ?_) | ((with_reducible refine wc_seq ?_); intro K hK) | (refine auC ?_) | (refine wc_cond rfl (fun hc => ?_) (fun hc => ?_)) | (refine wc_draw (by kernel_rfl) (by kernel_rfl) (by decide +kernel) ?_; intro w0 hw0 hm0; (try simp only [List.append_eq, List.cons_append, List.nil_append])) | (refine auP ?_) | ((refine auR ?_); clear hK K) | (refine auR ?_) | ((with_reducible refine hK _ _ ?_); clear hK K) | fail)
  first | refine end_ret (ResP.tmp rfl (ResP.tmp rfl ResP.nil)) ?_ | refine end_normal (ResP.tmp rfl (ResP.tmp rfl ResP.nil)) ?_
  (try dsimp only [tupV])
  rw [List.append_nil] at ho
  exact ⟨_, _, rfl, inferInstance, .skip (.skip (.skip (by rw [List.append_nil]; exact SubL.refl _)))⟩
set_option maxHeartbeats 8000000 in
theorem run_se (w : World) {v : Value} {n : Nat} {p : List Nat} (hp : Cb w v n p) {W iv : List Nat} {R : Nat} [hkk : AKey W] (hR : R ≤ 14) (hi : B16 iv) (EX : ∀ w', Cb w' v n p → Calls Tryz.prog 25 [v].toArray w' (Ret (.tuple #[kv W R, .int .i64 0]) w'))
    {u : Value} {m : Nat} {q : List Nat} (hq : Cb w u m q) (hm : m ≤ 2048) :
    Calls Tryz.prog 14 [.int .i64 7, v, .agg (bys iv), u].toArray w (RetO (fun v : Value => .tuple #[v, .int .i64 0]) (fun v oa => CsB (Hd oa) v (16 * (m / 16 + 1)) (cflat (encL W R) iv (padP q) (m / 16 + 1))) w) := by
  have i1 := hp.old
  have i2 := hq.old
  haveI : NBy iv 16 := ⟨hi.len⟩
  have hql := hq.ok.len
  have hqb := hq.ok.by'
  have ed := edok hkk.ok R
  obtain ⟨k, hk⟩ : ∃ k, k = m / 16 := ⟨_, rfl⟩
  have hBb : B16 (cblk (encL W R) iv q k) := cblk_ok ed hi hqb k (by omega)
  have hend := seal_end (E := encL W R) (iv := iv) (q := q) (m := k) (by omega)
  have NW : ∀ w', Cb w' v n p → Calls Tryz.prog 9 [.int .i64 7, v, .agg (bys iv)].toArray w' (RetO (fun b : Nat => .tuple #[ptr b, .int .i64 0]) (fun b oa => ∃ g, oa = [(b, (opC 107 g 0 false, 57)), (g, (rwA (sgSe W R iv (.slice none 0 0)), 109))]) w') :=
    fun w' h => new_w (kind := 7) w' (by decide) h hi (fun w' h => way_se w' h hi EX)
  rw [← hk, ← hend]
  clear hp
  refine fn_own (N := _) Tryz.func14 rfl Tryz.ntmps14 Tryz.results14 (by simp) ?_
  simp only [initS, Nat.reduceAdd, Nat.zero_add]
  repeat' (first | (refine wlS ?_) | (refine wlG ?_) | (refine wlB ?_) | (refine wlE ?_) | (refine efSvao ?_; intro v oa ho) | ((with_reducible refine sel_call ?_); first | (refine wl_newO rfl rfl rfl rfl rfl (fun w hm => by with_reducible exact NW w (VwB.out w hm)) ?_; intro x oa hx)) | (refine efBnn ?_; intro n hn) | (refine wl_skip rfl rfl ?_) | ((with_reducible refine wc_seq ?_); intro K hK) | (refine auC ?_) | (refine wc_cond rfl (fun hc => ?_) (fun hc => ?_)) | (refine wc_draw (by kernel_rfl) (by kernel_rfl) (by decide +kernel) ?_; intro w0 hw0 hm0; (try simp only [List.append_eq, List.cons_append, List.nil_append])) | (refine auP ?_) | ((refine auR ?_); clear hK K) | (refine auR ?_) | ((with_reducible refine hK _ _ ?_); clear hK K) | fail)
  obtain ⟨g, rfl⟩ := hx
  refine wl_updO rfl rfl rfl rfl rfl (fun w' hm' hw => up_w (ob := [(g, (rwA (sgSe W R iv (.slice none 0 0)), 109))]) (mm_se g) (by kernel_rfl) w w' (hm'.below rfl) (Mem.ndS hm') hw (Mem.freshS hm') hq (Nat.zero_add m) hm
    (fun w2 hb nd hd hf => se_more (k := 0) (L := []) (oo := []) (m := k) w w2 hb hR hi inferInstance (by decide) nd hd hf hq hm rfl (by omega))) ?_
  rintro v1 oa ⟨o2, rfl, lv, oL, oX, rfl, hO, hS⟩
  rw [Nat.zero_add] at hO ⊢
  simp only [List.nil_append] at hO hS ⊢
  repeat' (first | (refine wlS ?_) | (refine wlG ?_) | (refine wlB ?_) | (refine wlE ?_) | (refine efSvao ?_; intro v oa ho) | (refine efBnn ?_; intro n hn) | (refine wl_skip rfl rfl ?_) | ((with_reducible refine wc_seq ?_); intro K hK) | (refine auC ?_) | (refine wc_cond rfl (fun hc => ?_) (fun hc => ?_)) | (refine wc_draw (by kernel_rfl) (by kernel_rfl) (by decide +kernel) ?_; intro w0 hw0 hm0; (try simp only [List.append_eq, List.cons_append, List.nil_append])) | (refine auP ?_) | ((refine auR ?_); clear hK K) | (refine auR ?_) | ((with_reducible refine hK _ _ ?_); clear hK K) | fail)
  refine wl_updO rfl rfl rfl rfl rfl (fun w' hm' hw => fin_w (m := 16) (q := cflat (encL W R) (cblk (encL W R) iv q k) (padP (q.drop (16 * k))) 1) (many := m) (ob := (g, (rwA (sgSe W R (cblk (encL W R) iv q k) lv), 109)) :: (oX ++ oL))
    (Φ := fun v oa => OwnB 5 v 16 (cflat (encL W R) (cblk (encL W R) iv q k) (padP (q.drop (16 * k))) 1) oa) (me_se g) (by kernel_rfl) (as_se g) w' (Mem.ndS hm') hw (fun v oa h => by haveI := h; infer_instance) (by omega)
    (fun w2 nd hd => se_end w2 hR hBb hO (by omega) (keys_subR nd) hd.subR)) ?_
  rintro v2 oa ⟨oF, rfl, hv2⟩
  haveI := hv2
  rw [List.cons_append, List.append_assoc]
  generalize cflat (encL W R) (cblk (encL W R) iv q k) (padP (q.drop (16 * k))) 1 = C2 at *
  generalize cflat (encL W R) iv q k = C1 at *
  generalize cblk (encL W R) iv q k = B at *
  obtain ⟨hSc, ⟨h0, rfl⟩ | ⟨b1, off1, rfl⟩⟩ := hS
  · rw [h0] at hSc
    have hC1 : C1 = [] := List.eq_nil_of_length_eq_zero hSc.ok.len
    subst hC1
    clear hSc
    repeat' (first | (refine wlS ?_) | (refine wlG ?_) | (refine wlB ?_) | (refine wlE ?_) | (refine efSvao ?_; intro v oa ho) | (refine efM ?_) | (refine efMvao ?_; intro v oa ho) | (refine efBnn ?_; intro n hn) | (refine wl_skip rfl rfl ?_) | ((with_reducible refine wc_seq ?_); intro K hK) | (refine auC ?_) | (refine wc_cond rfl (fun hc => ?_) (fun hc => ?_)) | (refine wc_draw (by kernel_rfl) (by kernel_rfl) (by decide +kernel) ?_; intro w0 hw0 hm0; (try simp only [List.append_eq, List.cons_append, List.nil_append])) | (refine auP ?_) | ((refine auR ?_); clear hK K) | (refine auR ?_) | ((with_reducible refine hK _ _ ?_); clear hK K) | fail)
    first | refine end_ret (ResP.tmp rfl (ResP.tmp rfl ResP.nil)) ?_ | refine end_normal (ResP.tmp rfl (ResP.tmp rfl ResP.nil)) ?_
    (try dsimp only [tupV])
    rw [show 16 * (k + 1) = 0 + 16 by omega]
    refine ⟨_, _, rfl, inferInstance, ?_⟩
    repeat (first | exact SubL.nil | exact SubL.refl _ | refine SubL.keep ?_ | exact SubL.headA _ _ | refine SubL.keepA ?_ _ | refine SubL.skip ?_ | refine SubL.skipA ?_ _)
  · haveI := hSc
    rw [show 16 * (k + 1) = 16 * k + 16 by omega]
    repeat' (first | (refine wlS ?_) | (refine wlG ?_) | (refine wlB ?_) | (refine wlE ?_) | (refine efSvao ?_; intro v oa ho) | (refine efAFvao ?_; intro v oa ho) | (refine efBnn ?_; intro n hn) | (refine wl_skip rfl rfl ?_) | ((with_reducible refine wc_seq ?_); intro K hK) | (refine auC ?_) | (refine wc_cond rfl (fun hc => ?_) (fun hc => ?_)) | (refine wc_draw (by kernel_rfl) (by kernel_rfl) (by decide +kernel) ?_; intro w0 hw0 hm0; (try simp only [List.append_eq, List.cons_append, List.nil_append])) | (refine auP ?_) | ((refine auR ?_); clear hK K) | (refine auR ?_) | ((with_reducible refine hK _ _ ?_); clear hK K) | fail)
    first | refine end_ret (ResP.tmp rfl (ResP.tmp rfl ResP.nil)) ?_ | refine end_normal (ResP.tmp rfl (ResP.tmp rfl ResP.nil)) ?_
    (try dsimp only [tupV])
    refine ⟨_, _, rfl, inferInstance, ?_⟩
    repeat (first | exact SubL.nil | exact SubL.refl _ | refine SubL.keep ?_ | exact SubL.headA _ _ | refine SubL.keepA ?_ _ | refine SubL.skip ?_ | refine SubL.skipA ?_ _)
theorem pad_split {r : List Nat} {j : Nat} (hj : j = r.length / 16) : padP r = r.take (16 * j) ++ padP (r.drop (16 * j)) := by
  unfold padP
  rw [padN_drop (by omega), ← List.append_assoc, List.take_append_drop]
theorem op_parts {W iv c r : List Nat} {R j : Nat} (hkk : AKey W) (hi : B16 iv) (hcl : c.length = 16 * (j + 1)) (hcb : ∀ x ∈ c, x < 256) (hj : j = r.length / 16) (hc : dflat (decL W R) iv c (j + 1) = padP r) :
    dflat (decL W R) iv c j = r.take (16 * j) ∧ dflat (decL W R) (prevC iv c j) (c.drop (16 * j)) 1 = padP (r.drop (16 * j)) := by
  have ed := edok hkk.ok R
  rw [dflat_drop, pad_split hj] at hc
  exact List.append_inj hc (by rw [(dflat_ok ed hi hcb j (by omega)).1, List.length_take]; omega)
set_option maxHeartbeats 8000000 in
theorem run_op (w : World) {v : Value} {n : Nat} {p : List Nat} (hp : Cb w v n p) {W iv : List Nat} {R : Nat} [hkk : AKey W] (hR : R ≤ 14) (hi : B16 iv) (EX : ∀ w', Cb w' v n p → Calls Tryz.prog 25 [v].toArray w' (Ret (.tuple #[kv W R, .int .i64 0]) w'))
    {u : Value} {j m : Nat} {c r : List Nat} (hq : Cb w u (16 * (j + 1)) c) (hm : 16 * (j + 1) ≤ 2048) (hrl : r.length = m) (hj : j = m / 16) (hc : dflat (decL W R) iv c (j + 1) = padP r) :
    Calls Tryz.prog 14 [.int .i64 8, v, .agg (bys iv), u].toArray w (RetO (fun v : Value => .tuple #[v, .int .i64 0]) (fun v oa => CsB (Hd oa) v m r) w) := by
  have i1 := hp.old
  have i2 := hq.old
  haveI : NBy iv 16 := ⟨hi.len⟩
  have hql := hq.ok.len
  have hqb := hq.ok.by'
  obtain ⟨e1, e2⟩ := op_parts hkk hi hql hqb (by omega) hc
  have hpv := prevC_ok hi hqb j (by omega)
  have hlen : (r.drop (16 * j)).length = m - 16 * j := by rw [List.length_drop, hrl]
  have f1 : endOk (dflat (decL W R) (prevC iv c j) (c.drop (16 * j)) 1) := by rw [e2]; exact endOk_pad _
  have f2 : 16 - endN (dflat (decL W R) (prevC iv c j) (c.drop (16 * j)) 1) = m - 16 * j := by rw [e2, endN_pad]; unfold padN; omega
  have f3 : (dflat (decL W R) (prevC iv c j) (c.drop (16 * j)) 1).take (m - 16 * j) = r.drop (16 * j) := by rw [e2, ← hlen]; exact pad_front _
  have f4 : r.take (16 * j) ++ r.drop (16 * j) = r := List.take_append_drop _ _
  have NW : ∀ w', Cb w' v n p → Calls Tryz.prog 9 [.int .i64 8, v, .agg (bys iv)].toArray w' (RetO (fun b : Nat => .tuple #[ptr b, .int .i64 0]) (fun b oa => ∃ g, oa = [(b, (opC 110 g 0 false, 57)), (g, (rwA (sgSe W R iv (.slice none 0 0)), 111))]) w') :=
    fun w' h => new_w (kind := 8) w' (by decide) h hi (fun w' h => way_op w' h hi EX)
  clear hp
  refine fn_own (N := _) Tryz.func14 rfl Tryz.ntmps14 Tryz.results14 (by simp) ?_
  simp only [initS, Nat.reduceAdd, Nat.zero_add]
  repeat' (first | (refine wlS ?_) | (refine wlG ?_) | (refine wlB ?_) | (refine wlE ?_) | (refine efSvao ?_; intro v oa ho) | ((with_reducible refine sel_call ?_); first | (refine wl_newO rfl rfl rfl rfl rfl (fun w hm => by with_reducible exact NW w (VwB.out w hm)) ?_; intro x oa hx)) | (refine efBnn ?_; intro n hn) | (refine wl_skip rfl rfl ?_) | ((with_reducible refine wc_seq ?_); intro K hK) | (refine auC ?_) | (refine wc_cond rfl (fun hc => ?_) (fun hc => ?_)) | (refine wc_draw (by kernel_rfl) (by kernel_rfl) (by decide +kernel) ?_; intro w0 hw0 hm0; (try simp only [List.append_eq, List.cons_append, List.nil_append])) | (refine auP ?_) | ((refine auR ?_); clear hK K) | (refine auR ?_) | ((with_reducible refine hK _ _ ?_); clear hK K) | fail)
  obtain ⟨g, rfl⟩ := hx
  refine wl_updO rfl rfl rfl rfl rfl (fun w' hm' hw => up_w (ob := [(g, (rwA (sgSe W R iv (.slice none 0 0)), 111))]) (mm_op g) (by kernel_rfl) w w' (hm'.below rfl) (Mem.ndS hm') hw (Mem.freshS hm') hq (Nat.zero_add _) hm
    (fun w2 hb nd hd hf => op_more (k := 0) (L := []) (oo := []) (M := j) w w2 hb hR hi inferInstance (by decide) nd hd hf hq hm (by omega))) ?_
  rintro v1 oa ⟨o2, rfl, lv, oL, oX, rfl, hO, hS⟩
  rw [show 0 + 16 * (j + 1) - 16 * j = 16 by omega] at hO
  rw [List.nil_append] at hO hS ⊢
  rw [e1] at hS
  rw [Nat.zero_add]
  repeat' (first | (refine wlS ?_) | (refine wlG ?_) | (refine wlB ?_) | (refine wlE ?_) | (refine efSvao ?_; intro v oa ho) | (refine efBnn ?_; intro n hn) | (refine wl_skip rfl rfl ?_) | ((with_reducible refine wc_seq ?_); intro K hK) | (refine auC ?_) | (refine wc_cond rfl (fun hc => ?_) (fun hc => ?_)) | (refine wc_draw (by kernel_rfl) (by kernel_rfl) (by decide +kernel) ?_; intro w0 hw0 hm0; (try simp only [List.append_eq, List.cons_append, List.nil_append])) | (refine auP ?_) | ((refine auR ?_); clear hK K) | (refine auR ?_) | ((with_reducible refine hK _ _ ?_); clear hK K) | fail)
  refine wl_updO rfl rfl rfl rfl rfl (fun w' hm' hw => fin_w (m := m - 16 * j) (q := r.drop (16 * j)) (many := 16 * (j + 1)) (ob := (g, (rwA (sgSe W R (prevC iv c j) lv), 111)) :: (oL ++ oX))
    (Φ := fun v oa => CsB (Hd oa) v (m - 16 * j) (r.drop (16 * j))) (me_op g) (by kernel_rfl) (as_op g) w' (Mem.ndS hm') hw (fun v oa h => h) (by omega)
    (fun w2 nd hd => op_end w2 hR hpv hO f1 f2 f3 (keys_subL nd) hd.subL)) ?_
  rintro v2 oa ⟨oF, rfl, hv2⟩
  haveI := hv2
  rw [List.cons_append, List.append_assoc]
  have hm2 : 16 * j + (m - 16 * j) = m := by omega
  clear e1 f1 f2 f3 e2 hc
  generalize r.take (16 * j) = P1 at *
  generalize r.drop (16 * j) = P2 at *
  generalize m - 16 * j = k at *
  haveI := hS
  repeat' (first | (refine wlS ?_) | (refine wlG ?_) | (refine wlB ?_) | (refine wlE ?_) | (refine efSvao ?_; intro v oa ho) | (refine efM ?_) | (refine efMvao ?_; intro v oa ho) | (refine efBnn ?_; intro n hn) | (refine wl_skip rfl rfl ?_) | ((with_reducible refine wc_seq ?_); intro K hK) | (refine auC ?_) | (refine wc_cond rfl (fun hc => ?_) (fun hc => ?_)) | (refine wc_draw (by kernel_rfl) (by kernel_rfl) (by decide +kernel) ?_; intro w0 hw0 hm0; (try simp only [List.append_eq, List.cons_append, List.nil_append])) | (refine auP ?_) | ((refine auR ?_); clear hK K) | (refine auR ?_) | ((with_reducible refine hK _ _ ?_); clear hK K) | fail)
  first | refine end_ret (ResP.tmp rfl (ResP.tmp rfl ResP.nil)) ?_ | refine end_normal (ResP.tmp rfl (ResP.tmp rfl ResP.nil)) ?_
  (try dsimp only [tupV])
  have ho2 := ho
  rw [hm2, f4] at ho2
  refine ⟨_, _, rfl, OwnB.csb (h := ho2), ?_⟩
  repeat (first | exact SubL.nil | exact SubL.refl _ | refine SubL.keep ?_ | exact SubL.headA _ _ | refine SubL.keepA ?_ _ | refine SubL.skip ?_ | refine SubL.skipA ?_ _)
end Go.Proofs.YtkendlnjaopbeaaGreatDoor
