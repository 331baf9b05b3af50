/- Bytes: copy, make, append of noughts, stores into a slice of the walk's own. -/
import Derived.Test.YtglbnbdeoenilaaSeg
import Derived.Laws.CopyRow
import Derived.Laws.IdiomCopy
import Derived.Laws.MakeOwn
import Derived.Lib.AppendZerosOnto
namespace Go.Proofs.Ytglbnbdeoenilaa
open Go.RowKit
set_option linter.unusedVariables false
set_option linter.unusedSimpArgs false
theorem At.ex2 {n : Nat} {x : Array Value × TypeId} (y : Array Value × TypeId) {l l' : Blks} (h : At l n x y l') : ∃ pre post, l = pre ++ ((n, x) :: post) ∧ l' = pre ++ ((n, y) :: post) := by
  induction h with
  | here => exact ⟨[], _, rfl, rfl⟩
  | there _ ih =>
    obtain ⟨pre, post, h1, h2⟩ := ih
    exact ⟨_ :: pre, post, by rw [h1]; rfl, by rw [h2]; rfl⟩
theorem At.same {n : Nat} {x : Array Value × TypeId} {l l' : Blks} (h : At l n x x l') : l' = l := by
  obtain ⟨pre, post, h1, h2⟩ := At.ex2 x h
  rw [h1, h2]
theorem made_one (z : Value) (n : Nat) : (madeCells #[z] n).toList = List.replicate n z := by
  apply List.ext_getElem
  · simp [size_madeCells]
  · intro i h1 h2
    simp [madeCells, Nat.mod_one]
theorem zeros_one (z : Value) (n : Nat) : (Builtin.zeroCells #[z] n).toList = List.replicate n z := by
  apply List.ext_getElem
  · simp [Builtin.zeroCells]
  · intro i h1 h2
    simp [Builtin.zeroCells, Nat.mod_one]
theorem bl_rep (n k : Nat) : bl (List.replicate n k) = List.replicate n (.int .u8 (k : Int)) := by simp [bl]
section
variable {X : Cx} {s : Slots} {l : Blks} {o : Oper} {v : Value} {Q : Post} {ops : Array Oper} {r : List Oper}
theorem putR_bys (q p : List Nat) (off : Nat) : ((bys q).toList.take off ++ bl p ++ (bys q).toList.drop (off + (bl p).length)).toArray = bys (q.take off ++ (p ++ q.drop (off + p.length))) := by
  simp [bys, bl]
/-- Bytes are copied into a block that is known. -/
theorem wl_copyB {x y : Operand} {t t' e te n cap b off m : Nat} {u : Value} {p q q' : List Nat} {l' : Blks} {s' : Slots} (hg : gd s ops o = some true) (hd : dOk X.N o.dst = true) (hop : o.op = .call { callee := .builtin .copy, args := #[x, y], argTypes := #[t, t'] })
    (hx : val s x = some (.slice (some ⟨b, off, none⟩) n cap)) (hy : val s y = some u) [ht : UT X.P t (.slice e)] [hs : SZ X.P e 1] [hu : VwB X l u m p] {k : Nat}
    (h : Wl X ops Q r s' l') (hat : At l b (bys q, te) (bys q', te) l' := by repeat (first | exact At.here | apply At.there)) (hk : Nat.min m n = k := by first | (with_reducible assumption) | rfl)
    (hfit : off + k ≤ q.length := by first | (with_reducible assumption) | omega) (hq : q.take off ++ (p.take k ++ q.drop (off + k)) = q' := by first | (with_reducible assumption) | rfl)
    (hs' : sputO s o.dst (.int .i64 (k : Int)) = s' := by (try dsimp only [sputO, sput, Nat.reduceBEq, cond_true, cond_false, beq_self_eq_true]); first | done | exact rfl) : Wl X ops Q (o :: r) s l := fun a w hst => by
  subst hs'
  have hw := gd_wanted hst.env hg
  obtain ⟨hcs, hok⟩ := hu.out w hst.mem
  obtain ⟨pu, cu, rfl, h1, h2, h3⟩ := hcs.ln.out
  have hgb := hst.mem.cls.now b (bys q) te (hat.now hst.mem.nd)
  have hkm : k ≤ m := by rw [← hk]; exact Nat.min_le_left _ _
  have htl : (bl (p.take k)).length = k := by rw [bl_len, List.length_take, hok.len]; omega
  have hrun : ∃ w', (Builtin.copy_ #[t, t'] o.type #[.slice (some ⟨b, off, none⟩) n cap, .slice pu m cu]).run X.P w = .ok (.int .i64 (k : Int)) w' ∧ Mem X l' w' := by
    by_cases h0 : k = 0
    · subst h0
      refine ⟨w, run_copy_none (P := X.P) w t t' o.type e _ pu n cap m cu ht.out hs.out hk, ?_⟩
      have e1 : q' = q := by rw [← hq]; simp
      subst e1
      have e2 : l' = l := hat.same
      rw [e2]; exact hst.mem
    · obtain ⟨b', off', rfl⟩ := h3 (by omega)
      refine ⟨_, run_copy_row (P := X.P) w t t' o.type e b off n cap ⟨b', off', none⟩ m cu (bys q) te (bl (p.take k)) ht.out hs.out hgb (by rw [htl, hk]) (fun j y hj => ?_) (by rw [htl]; simpa [bys, bl_len] using hfit) (bl_one _) |>.trans (by rw [htl]; rfl), ?_⟩
      · have hjl : j < k := by rw [← htl]; exact (List.getElem?_eq_some_iff.1 hj).1
        have hj' : (bl p)[j]? = some y := by
          rw [← bl_take, List.getElem?_take_of_lt hjl] at hj
          exact hj
        obtain ⟨b2, off2, cap2, hv, hc⟩ := hcs.cell j y hj'
        injection hv with hv
        injection hv with hv
        injection hv with hb' ho'
        subst hb'; subst ho'
        rw [Addr.add_mid]; exact hc
      · have e0 : off + k = off + (bl (p.take k)).length := by rw [htl]
        rw [e0, putR_bys]
        have e1 : q.take off ++ (p.take k ++ q.drop (off + (p.take k).length)) = q' := by
          rw [← hq, List.length_take, hok.len, Nat.min_eq_left hkm]
        rw [e1]
        exact hst.mem.upd hat
  obtain ⟨w', hrun, hmem⟩ := hrun
  unfold wpList
  rw [if_pos hw]
  refine .inl ?_
  unfold Oper.wp
  have : (execOp a.eval o).run X.P w = .ok (.value (.int .i64 (k : Int))) w' := by
    simp only [execOp, hop, resolve, invoke, builtin, Sem.run_bind, Sem.run_pure, Result.andThen_ok, List.map_toArray, List.map_cons, List.map_nil, hst.env.eval hx, hst.env.eval hy, hrun]
  rw [this]
  exact h _ _ ⟨hst.env.put hd _, hmem⟩
/-- New noughts. -/
theorem wl_makeB {t e bytes n : Nat} {x y : Operand} {kx ky : IntKind} {s' : Value → Slots} {f : Blks → Blks} (hg : gd s ops o = some true) (hd : dOk X.N o.dst = true) (hop : o.op = .makeSlice t x y) (hx : val s x = some (.int kx (n : Int))) (hy : val s y = some (.int ky (n : Int)))
    [ht : UT X.P t (.slice e)] [hei : EI X.P e 1 bytes #[.int .u8 0]] [hf : Snoc l f] (h : ∀ v' oa', OwnB e v' n (List.replicate n 0) oa' → Wl X ops Q r (s' v') (f oa'))
    (hb : n * bytes ≤ 140737488355328 ∧ n ≤ 1152921504606846976 := by (refine ⟨?_, ?_⟩ <;> omega))
    (hs' : ∀ v', sputO s o.dst v' = s' v' := by intro _; (try dsimp only [sputO, sput, Nat.reduceBEq, cond_true, cond_false, beq_self_eq_true]); first | done | exact rfl) : Wl X ops Q (o :: r) s l := fun ac w hst => by
  obtain rfl : (fun v' => sputO s o.dst v') = s' := funext hs'
  have hw := gd_wanted hst.env hg
  obtain ⟨i, zv, hi, hsz, hby, hz, hzc, hzs⟩ := hei.out
  have hr := run_make (P := X.P) w t e i zv ht.out hi hz kx ky (n : Int) (n : Int) (by omega) (Int.le_refl _) (by rw [hby, ← Int.natCast_mul, Nat.mul_comm]; omega) (by omega)
  rw [hsz, Nat.mul_one, Int.toNat_natCast, hzc] at hr
  unfold wpList
  rw [if_pos hw]
  refine .inl ?_
  unfold Oper.wp
  have : (execOp ac.eval o).run X.P w = .ok (.value (.slice (some ⟨w.heap.size, 0, none⟩) n n)) (w.alloc (.cells (madeCells #[.int .u8 0] n) e)) := by
    simp only [execOp, hop, hst.env.eval hx, hst.env.eval hy, Sem.run_bind, hr, Result.andThen_ok, Sem.run_pure]
  rw [this]
  haveI : Seg l [] f := ⟨l, [], by simp, fun o => by rw [hf.out, List.append_nil]⟩
  refine h _ [(w.heap.size, (madeCells #[.int .u8 0] n, e))] ⟨⟨by rw [bl_len, List.length_replicate, Nat.mul_one], .inr ⟨w.heap.size, n, madeCells #[.int .u8 0] n, rfl, Nat.le_refl _, ?_, by rw [size_madeCells, Nat.mul_one], ?_, rfl⟩⟩, BL.rep n 0 (by decide)⟩ _ _ ⟨hst.env.put hd _, (upd_new (w := w) (w1 := w) rfl rfl rfl rfl [] _ e).mem hst.mem⟩
  · simp only [maxLen]; omega
  · rw [made_one, bl_rep, Nat.mul_one, List.take_of_length_le (by simp)]; rfl
/-- Noughts are appended (gc's append of make). -/
theorem append_zeros {P : Program} {oa : Blks} {w : World} {t tn ty e bytes : Nat} {v : Value} {n m : Nat} {p : List Nat} {kn kv : IntKind}
    (ht : P.underlying t = some (.slice e)) (htn : P.underlying tn = some (.int kn)) (hei : EI P e 1 bytes #[.int .u8 0]) (hown : OwnB e v n p oa) (hd : Hd oa w)
    (h63 : n + m ≤ maxLen) (hb : (n + m) * bytes ≤ 140737488355328) :
    ∃ v' w' oa', (Builtin.append_ #[t, tn] ty #[v, .int kv (m : Int)]).run P w = .ok v' w' ∧ OwnB e v' (n + m) (p ++ List.replicate m 0) oa' ∧ Upd w oa w' oa' := by
  obtain ⟨i, zv, hi, hsz, hby, hz, hzc, hzs⟩ := hei.out
  have hxl := hown.own.len
  rw [Nat.mul_one] at hxl
  have hok : BL (n + m) (p ++ List.replicate m 0) := hown.ok.app (BL.rep m 0 (by decide))
  have hnd : (keys oa).Nodup := by rcases hown.own.out with ⟨_, _, rfl⟩ | ⟨g, cap, cur, _, _, _, _, _, rfl⟩ <;> simp [keys]
  have hl2 : (bl (p ++ List.replicate m 0)).length = (n + m) * 1 := by rw [bl_len, hok.len, Nat.mul_one]
  have h63' : n + m ≤ 9223372036854775807 := by simp only [maxLen] at h63; omega
  have hw : IntKind.i64.wrap (m : Int) = m := by rw [IntKind.wrap_i64]; omega
  have hneg : ¬ ((m : Int) < 0) := by omega
  have hmb : m * bytes ≤ 140737488355328 := Nat.le_trans (Nat.mul_le_mul_right _ (by omega)) hb
  have h48i : ¬ (281474976710656 < (m : Int) * (bytes : Int)) := by rw [← Int.natCast_mul]; omega
  have hw0 : IntKind.i64.wrap 0 = 0 := by decide
  by_cases h0 : m = 0
  · subst h0
    refine ⟨v, w, oa, ?_, ⟨by simpa using hown.own, by simpa using hok⟩, rfl, rfl, rfl, Nat.le_refl _, fun _ _ _ => rfl, hnd, hd, fun n hn => .inl hn⟩
    rcases hown.own.out with ⟨rfl, rfl, rfl⟩ | ⟨g, cap, cur, rfl, hnc, hcm, hcs, htake, rfl⟩
    · simp [Builtin.append_, run_underlying ht, run_underlying htn, sizeOf, typeInfo, hi, asInt, asIntOf, hw0]
    · simp [Builtin.append_, run_underlying ht, run_underlying htn, sizeOf, typeInfo, hi, asInt, asIntOf, hw0, hnc, storeCells]
  have size_new : ∀ k, n + m ≤ k → ((bl p).toArray ++ Builtin.zeroCells zv.cells m ++ Builtin.zeroCells zv.cells (k - (n + m))).size = k * 1 := fun k hk => by
    simp only [Array.size_append, List.size_toArray, size_zeroCells, hzc]
    rw [hxl]
    simp only [List.size_toArray, List.length_cons, List.length_nil]
    omega
  have take_new : ∀ k, ((bl p).toArray ++ Builtin.zeroCells zv.cells m ++ Builtin.zeroCells zv.cells (k - (n + m))).toList.take ((n + m) * 1) = bl (p ++ List.replicate m 0) := fun k => by
    rw [Array.toList_append, Array.toList_append, hzc, zeros_one, bl_app, bl_rep, ← hl2, bl_app, bl_rep]
    exact List.take_left
  rcases hown.own.out with ⟨rfl, rfl, rfl⟩ | ⟨g, cap, cur, rfl, hnc, hcm, hcs, htake, rfl⟩
  · have hx : p = [] := List.eq_nil_of_length_eq_zero (by rw [← hown.ok.len])
    subst hx
    have hr := Lib.run_append_nil_zeros (P := P) w t tn ty e i zv kv kn ht htn hi hz m (by omega) (by omega) (by omega) (by rw [hby]; omega)
    have hge := grownCap_ge w m 0 e
    have hcl := grownCap_le_maxLen w m 0 e (by omega)
    have hs := size_new (grownCap w m 0 e) (by omega)
    have htk := take_new (grownCap w m 0 e)
    simp only [Nat.zero_add, bl, List.map_nil, Array.empty_append, List.nil_append] at hs htk hl2 hok ⊢
    exact ⟨_, _, [(w.heap.size, (_, e))], hr, ⟨⟨hl2, .inr ⟨w.heap.size, _, _, rfl, hge, hcl, hs, htk, rfl⟩⟩, hok⟩, upd_new (w := w) (w1 := w.drew) rfl rfl rfl rfl [] _ e⟩
  · have hg : w.heap[g]? = some (.cells cur e (0, 0)) := hd (g, (cur, e)) (by simp)
    by_cases hroom : n + m ≤ cap
    · have hfit : n + (List.replicate m (Value.int .u8 0)).length ≤ cur.size := by rw [List.length_replicate, hcs]; omega
      have hst := run_storeCells_at P g n e (List.replicate m (Value.int .u8 0)) 0 cur w hg (by simpa using hfit) (fun y hy => by rw [(List.mem_replicate.1 hy).2]; rfl)
      simp only [Nat.add_zero] at hst
      have hms : ¬ (m * i.size = 0) := by rw [hsz]; omega
      have hr : (Builtin.append_ #[t, tn] ty #[.slice (some ⟨g, 0, none⟩) n cap, .int kv (m : Int)]).run P w = .ok (.slice (some ⟨g, 0, none⟩) (n + m) cap) (w.setRow g (cur.toList.take n ++ List.replicate m (Value.int .u8 0) ++ cur.toList.drop (n + (List.replicate m (Value.int .u8 0)).length)).toArray) := by
        simp [Builtin.append_, run_underlying ht, run_underlying htn, sizeOf, typeInfo, zeroValue, hi, hz, hsz, hby, asInt, asIntOf, hw, hneg, h0, h48i, hroom, hzc, zeros_one, Addr.add_lit, hst]
      refine ⟨_, _, [(g, (_, e))], hr, ⟨⟨hl2, .inr ⟨g, cap, _, rfl, hroom, hcm, ?_, ?_, rfl⟩⟩, hok⟩, rfl, rfl, rfl, by simp, fun k hk hne => setRow_other w g k _ (fun e => hne (by simp [keys, e])), by simp [keys], hd_one (setRow_heap w g cur _ e _ hg), fun n hn => .inl (by simpa [keys] using hn)⟩
      · simp only [List.size_toArray, List.length_append, List.length_take, List.length_drop, Array.length_toList, List.length_replicate]
        omega
      · rw [Nat.mul_one] at htake
        simp only [htake]
        rw [← hl2, bl_app, bl_rep]
        exact List.take_left
    · have holds : ∀ j y, (bl p)[j]? = some y → w.cell? ((⟨g, 0, none⟩ : Addr).add j) = some y := (hown.own.row hd).cells (g := g) rfl
      have hfc := run_firstCells_some (P := P) w.drew i.size n ⟨g, 0, none⟩ n cap (bl p) (by rw [hxl, hsz, Nat.mul_one]) holds
      have hr := Lib.run_append_grow_zeros (P := P) w t tn ty e i zv kv kn ht htn hi hz (some ⟨g, 0, none⟩) n cap (bl p) hfc m (by omega) (by omega) (by omega) (by omega) (by rw [hby]; omega) (by rw [hby]; exact growslice_fits (by omega) hb)
      have hge := grownCap_ge w (n + m) cap e
      have hcl := grownCap_le_maxLen w (n + m) cap e h63
      exact ⟨_, _, [(w.heap.size, (_, e))], hr, ⟨⟨hl2, .inr ⟨w.heap.size, _, _, rfl, hge, hcl, size_new _ hge, take_new _, rfl⟩⟩, hok⟩, upd_new (w := w) (w1 := w.drew) rfl rfl rfl rfl _ _ e⟩
theorem wl_append0 {x y : Operand} {t tn e bytes n m : Nat} {kn kv : IntKind} {p : List Nat} {oa : Blks} {f : Blks → Blks} {s' : Value → Slots}
    (hg : gd s ops o = some true) (hd : dOk X.N o.dst = true) (hop : o.op = .call { callee := .builtin .append, args := #[x, y], argTypes := #[t, tn] })
    (hx : val s x = some v) (hy : val s y = some (.int kv (m : Int))) [ht : UT X.P t (.slice e)] [htn : UT X.P tn (.int kn)] [hei : EI X.P e 1 bytes #[.int .u8 0]] [hown : OwnB e v n p oa] [hseg : Seg l oa f]
    (h : ∀ v' oa', OwnB e v' (n + m) (p ++ List.replicate m 0) oa' → Wl X ops Q r (s' v') (f oa'))
    (h63 : (n + m) * bytes ≤ 1152921504606846976 ∧ n + m ≤ 1152921504606846976 ∧ (n + m) * bytes ≤ 140737488355328 := by (refine ⟨?_, ?_, ?_⟩ <;> omega))
    (hs' : ∀ v', sputO s o.dst v' = s' v' := by intro _; (try dsimp only [sputO, sput, Nat.reduceBEq, cond_true, cond_false, beq_self_eq_true]); first | done | exact rfl) : Wl X ops Q (o :: r) s l := fun ac w hst => by
  obtain rfl : (fun v' => sputO s o.dst v') = s' := funext hs'
  have hw := gd_wanted hst.env hg
  have hdd : Hd oa w := by
    obtain ⟨pre, post, rfl, _⟩ := hseg.out
    intro p hp
    exact hst.mem.cls.now p.1 p.2.1 p.2.2 (mu_mem_of (by simp [hp]) hst.mem.nd)
  obtain ⟨v', w', oa', hr, ho', hup⟩ := append_zeros (ty := o.type) (kv := kv) (m := m) ht.out htn.out hei hown hdd (by simp only [maxLen]; omega) h63.2.2
  unfold wpList
  rw [if_pos hw]
  refine .inl ?_
  unfold Oper.wp
  have : (execOp ac.eval o).run X.P w = .ok (.value v') w' := by
    simp only [execOp, hop, resolve, invoke, builtin, Sem.run_bind, Sem.run_pure, Result.andThen_ok, List.map_toArray, List.map_cons, List.map_nil, hst.env.eval hx, hst.env.eval hy, hr]
  rw [this]
  exact h v' oa' ho' _ _ ⟨hst.env.put hd _, hup.mem hst.mem⟩
/-- A byte is put into a slice of the walk's own. -/
theorem wl_putB {x y : Operand} {t e n j k : Nat} {u : Value} {p : List Nat} {oa : Blks} {f : Blks → Blks} (hg : gd s ops o = some true) (hd : dOk X.N o.dst = true) (ho : o.op = .store t x y)
    (hx : val s x = some (.pointer (some ⟨elB u, elO u + j, none⟩))) (hy : val s y = some (.int .u8 (k : Int))) [hs : SZ X.P t 1] [hown : OwnB e u n p oa] [hseg : Seg l oa f]
    (h : ∀ oa', OwnB e u n (p.set j k) oa' → Wl X ops Q r s (f oa')) (hj : j < n := by first | (with_reducible assumption) | omega) (hk : k < 256 := by first | (with_reducible assumption) | omega) (hdn : o.dst = none := by rfl) : Wl X ops Q (o :: r) s l := fun ac w hst => by
  have hw := gd_wanted hst.env hg
  have hdd : Hd oa w := by
    obtain ⟨pre, post, rfl, _⟩ := hseg.out
    intro p hp
    exact hst.mem.cls.now p.1 p.2.1 p.2.2 (mu_mem_of (by simp [hp]) hst.mem.nd)
  have hxl := hown.own.len
  rcases hown.own.out with ⟨rfl, rfl, rfl⟩ | ⟨g, cap, cur, rfl, hnc, hcm, hcs, htake, rfl⟩
  · omega
  have hgb : w.heap[g]? = some (.cells cur e (0, 0)) := hdd (g, (cur, e)) (by simp)
  have hlt : 0 + j < cur.size := by omega
  have h1 : (Value.int .u8 (k : Int)).oneCell' = true := rfl
  have hrun := store_run (P := X.P) (ty := t) (off := 0 + j) (v := .int .u8 (k : Int)) (w := w) (.inr ⟨h1, hs.out, hlt⟩) hgb
  have e1 : splice cur (0 + j) (.int .u8 (k : Int)) = cur.setIfInBounds (0 + j) (.int .u8 (k : Int)) := rfl
  rw [e1] at hrun
  unfold wpList
  rw [if_pos hw]
  refine .inl ?_
  unfold Oper.wp
  have hx' := hst.env.eval hx
  have : (execOp ac.eval o).run X.P w = .ok .skip (w.setRow g (cur.setIfInBounds (0 + j) (.int .u8 (k : Int)))) := by
    simp only [execOp, ho, hx', hst.env.eval hy, Instr.storeAt, Instr.sureAddr, Sem.run_bind, Sem.run_pure, Result.andThen_ok, elB, elO, hrun]
  rw [this]
  have hs0 : sputO s o.dst undef = s := by rw [hdn]; rfl
  have hup : Upd w [(g, (cur, e))] (w.setRow g (cur.setIfInBounds (0 + j) (.int .u8 (k : Int)))) [(g, (cur.setIfInBounds (0 + j) (.int .u8 (k : Int)), e))] :=
    ⟨rfl, rfl, rfl, by simp, fun k' hk' hne => setRow_other w g k' _ (fun e => hne (by simp [keys, e])), by simp [keys], hd_one (setRow_heap w g cur _ e _ hgb), fun n hn => .inl (by simpa [keys] using hn)⟩
  refine (show Wl X ops Q r (sputO s o.dst undef) (f [(g, (cur.setIfInBounds (0 + j) (.int .u8 (k : Int)), e))]) from by
    rw [hs0]
    refine h _ ⟨⟨by rw [bl_len, List.length_set, hown.ok.len, Nat.mul_one], .inr ⟨g, cap, _, rfl, hnc, hcm, by simpa using hcs, ?_, rfl⟩⟩, hown.ok.set hk⟩
    rw [Nat.zero_add, Array.toList_setIfInBounds, List.take_set, htake, bl_set]) _ _ ⟨hst.env.put hd _, hup.mem hst.mem⟩
end
end Go.Proofs.Ytglbnbdeoenilaa
