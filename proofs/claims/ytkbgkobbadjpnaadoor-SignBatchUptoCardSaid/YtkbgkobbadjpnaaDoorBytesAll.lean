/- Bytes: copy, make, append of noughts, stores into a slice of the walk's own. The walks of limb.Bytes and limb.Of. Rows of 32 bytes as numbers. scalar.Of, walked; appends to a slice that is full. scalar.Digest, walked. -/
import Derived.Test.YtkbgkobbadjpnaaDoorShaAll
import Derived.Laws.CopyRow
import Derived.Laws.IdiomCopy
import Derived.Laws.MakeOwn
import Derived.Lib.AppendZerosOnto
import Derived.Test.YtkbgkobbadjpnaaDoorLimbAll
import Derived.Test.YtkbgkobbadjpnaaDoorMild
import Derived.LoopTactic
import Derived.WalkKit
import Derived.Laws.Rows
import Derived.Laws.Tables
import Derived.Test.YtkbgkobbadjpnaaDoorQuotAll
import Derived.Test.YtkbgkobbadjpnaaDoorLwH
import Derived.Test.YtkbgkobbadjpnaaDoorTyS
import Derived.Test.YtkbgkobbadjpnaaDoorHashAll
namespace Go.Proofs.YtkbgkobbadjpnaaDoor
open Go.RowKit
set_option linter.unusedVariables false
set_option linter.unusedSimpArgs false
theorem At.ex2 {n : Nat} {x : Array Value × TypeId} (y : Array Value × TypeId) {l l' : Blks} (h : At l n x y l') : ∃ pre post, l = pre ++ ((n, x) :: post) ∧ l' = pre ++ ((n, y) :: post) := by
  induction h with
  | here => exact ⟨[], _, rfl, rfl⟩
  | there _ ih =>
    obtain ⟨pre, post, h1, h2⟩ := ih
    exact ⟨_ :: pre, post, by rw [h1]; rfl, by rw [h2]; rfl⟩
theorem At.same {n : Nat} {x : Array Value × TypeId} {l l' : Blks} (h : At l n x x l') : l' = l := by
  obtain ⟨pre, post, h1, h2⟩ := At.ex2 x h
  rw [h1, h2]
theorem made_one (z : Value) (n : Nat) : (madeCells #[z] n).toList = List.replicate n z := by
  apply List.ext_getElem
  · simp [size_madeCells]
  · intro i h1 h2
    simp [madeCells, Nat.mod_one]
theorem zeros_one (z : Value) (n : Nat) : (Builtin.zeroCells #[z] n).toList = List.replicate n z := by
  apply List.ext_getElem
  · simp [Builtin.zeroCells]
  · intro i h1 h2
    simp [Builtin.zeroCells, Nat.mod_one]
theorem bl_rep (n k : Nat) : bl (List.replicate n k) = List.replicate n (.int .u8 (k : Int)) := by simp [bl]
section
variable {X : Cx} {s : Slots} {l : Blks} {o : Oper} {v : Value} {Q : Post} {ops : Array Oper} {r : List Oper}
theorem putR_bys (q p : List Nat) (off : Nat) : ((bys q).toList.take off ++ bl p ++ (bys q).toList.drop (off + (bl p).length)).toArray = bys (q.take off ++ (p ++ q.drop (off + p.length))) := by
  simp [bys, bl]
/-- Bytes are copied into a block that is known. -/
theorem wl_copyB {x y : Operand} {t t' e te n cap b off m : Nat} {u : Value} {p q q' : List Nat} {l' : Blks} {s' : Slots} (hg : gd s ops o = some true) (hd : dOk X.N o.dst = true) (hop : o.op = .call { callee := .builtin .copy, args := #[x, y], argTypes := #[t, t'] })
    (hx : val s x = some (.slice (some ⟨b, off, none⟩) n cap)) (hy : val s y = some u) [ht : UT X.P t (.slice e)] [hs : SZ X.P e 1] [hu : VwB X l u m p] {k : Nat}
    (h : Wl X ops Q r s' l') (hat : At l b (bys q, te) (bys q', te) l' := by repeat (first | exact At.here | apply At.there)) (hk : Nat.min m n = k := by first | (with_reducible assumption) | rfl)
    (hfit : off + k ≤ q.length := by first | (with_reducible assumption) | omega) (hq : q.take off ++ (p.take k ++ q.drop (off + k)) = q' := by first | (with_reducible assumption) | rfl)
    (hs' : sputO s o.dst (.int .i64 (k : Int)) = s' := by (try dsimp only [sputO, sput, Nat.reduceBEq, cond_true, cond_false, beq_self_eq_true]); first | done | exact rfl) : Wl X ops Q (o :: r) s l := fun a w hst => by
  subst hs'
  have hw := gd_wanted hst.env hg
  obtain ⟨hcs, hok⟩ := hu.out w hst.mem
  obtain ⟨pu, cu, rfl, h1, h2, h3⟩ := hcs.ln.out
  have hgb := hst.mem.cls.now b (bys q) te (hat.now hst.mem.nd)
  have hkm : k ≤ m := by rw [← hk]; exact Nat.min_le_left _ _
  have htl : (bl (p.take k)).length = k := by rw [bl_len, List.length_take, hok.len]; omega
  have hrun : ∃ w', (Builtin.copy_ #[t, t'] o.type #[.slice (some ⟨b, off, none⟩) n cap, .slice pu m cu]).run X.P w = .ok (.int .i64 (k : Int)) w' ∧ Mem X l' w' := by
    by_cases h0 : k = 0
    · subst h0
      refine ⟨w, run_copy_none (P := X.P) w t t' o.type e _ pu n cap m cu ht.out hs.out hk, ?_⟩
      have e1 : q' = q := by rw [← hq]; simp
      subst e1
      have e2 : l' = l := hat.same
      rw [e2]; exact hst.mem
    · obtain ⟨b', off', rfl⟩ := h3 (by omega)
      refine ⟨_, run_copy_row (P := X.P) w t t' o.type e b off n cap ⟨b', off', none⟩ m cu (bys q) te (bl (p.take k)) ht.out hs.out hgb (by rw [htl, hk]) (fun j y hj => ?_) (by rw [htl]; simpa [bys, bl_len] using hfit) (bl_one _) |>.trans (by rw [htl]; rfl), ?_⟩
      · have hjl : j < k := by rw [← htl]; exact (List.getElem?_eq_some_iff.1 hj).1
        have hj' : (bl p)[j]? = some y := by
          rw [← bl_take, List.getElem?_take_of_lt hjl] at hj
          exact hj
        obtain ⟨b2, off2, cap2, hv, hc⟩ := hcs.cell j y hj'
        injection hv with hv
        injection hv with hv
        injection hv with hb' ho'
        subst hb'; subst ho'
        rw [Addr.add_mid]; exact hc
      · have e0 : off + k = off + (bl (p.take k)).length := by rw [htl]
        rw [e0, putR_bys]
        have e1 : q.take off ++ (p.take k ++ q.drop (off + (p.take k).length)) = q' := by
          rw [← hq, List.length_take, hok.len, Nat.min_eq_left hkm]
        rw [e1]
        exact hst.mem.upd hat
  obtain ⟨w', hrun, hmem⟩ := hrun
  unfold wpList
  rw [if_pos hw]
  refine .inl ?_
  unfold Oper.wp
  have : (execOp a.eval o).run X.P w = .ok (.value (.int .i64 (k : Int))) w' := by
    simp only [execOp, hop, resolve, invoke, builtin, Sem.run_bind, Sem.run_pure, Result.andThen_ok, List.map_toArray, List.map_cons, List.map_nil, hst.env.eval hx, hst.env.eval hy, hrun]
  rw [this]
  exact h _ _ ⟨hst.env.put hd _, hmem⟩
/-- New noughts. -/
theorem wl_makeB {t e bytes n : Nat} {x y : Operand} {kx ky : IntKind} {s' : Value → Slots} {f : Blks → Blks} (hg : gd s ops o = some true) (hd : dOk X.N o.dst = true) (hop : o.op = .makeSlice t x y) (hx : val s x = some (.int kx (n : Int))) (hy : val s y = some (.int ky (n : Int)))
    [ht : UT X.P t (.slice e)] [hei : EI X.P e 1 bytes #[.int .u8 0]] [hf : Snoc l f] (h : ∀ v' oa', OwnB e v' n (List.replicate n 0) oa' → Wl X ops Q r (s' v') (f oa'))
    (hb : n * bytes ≤ 140737488355328 ∧ n ≤ 1152921504606846976 := by (refine ⟨?_, ?_⟩ <;> omega))
    (hs' : ∀ v', sputO s o.dst v' = s' v' := by intro _; (try dsimp only [sputO, sput, Nat.reduceBEq, cond_true, cond_false, beq_self_eq_true]); first | done | exact rfl) : Wl X ops Q (o :: r) s l := fun ac w hst => by
  obtain rfl : (fun v' => sputO s o.dst v') = s' := funext hs'
  have hw := gd_wanted hst.env hg
  obtain ⟨i, zv, hi, hsz, hby, hz, hzc, hzs⟩ := hei.out
  have hr := run_make (P := X.P) w t e i zv ht.out hi hz kx ky (n : Int) (n : Int) (by omega) (Int.le_refl _) (by rw [hby, ← Int.natCast_mul, Nat.mul_comm]; omega) (by omega)
  rw [hsz, Nat.mul_one, Int.toNat_natCast, hzc] at hr
  unfold wpList
  rw [if_pos hw]
  refine .inl ?_
  unfold Oper.wp
  have : (execOp ac.eval o).run X.P w = .ok (.value (.slice (some ⟨w.heap.size, 0, none⟩) n n)) (w.alloc (.cells (madeCells #[.int .u8 0] n) e)) := by
    simp only [execOp, hop, hst.env.eval hx, hst.env.eval hy, Sem.run_bind, hr, Result.andThen_ok, Sem.run_pure]
  rw [this]
  haveI : Seg l [] f := ⟨l, [], by simp, fun o => by rw [hf.out, List.append_nil]⟩
  refine h _ [(w.heap.size, (madeCells #[.int .u8 0] n, e))] ⟨⟨by rw [bl_len, List.length_replicate, Nat.mul_one], .inr ⟨w.heap.size, n, madeCells #[.int .u8 0] n, rfl, Nat.le_refl _, ?_, by rw [size_madeCells, Nat.mul_one], ?_, rfl⟩⟩, BL.rep n 0 (by decide)⟩ _ _ ⟨hst.env.put hd _, (upd_new (w := w) (w1 := w) rfl rfl rfl rfl [] _ e).mem hst.mem⟩
  · simp only [maxLen]; omega
  · rw [made_one, bl_rep, Nat.mul_one, List.take_of_length_le (by simp)]; rfl
/-- Noughts are appended (gc's append of make). -/
theorem append_zeros {P : Program} {oa : Blks} {w : World} {t tn ty e bytes : Nat} {v : Value} {n m : Nat} {p : List Nat} {kn kv : IntKind}
    (ht : P.underlying t = some (.slice e)) (htn : P.underlying tn = some (.int kn)) (hei : EI P e 1 bytes #[.int .u8 0]) (hown : OwnB e v n p oa) (hd : Hd oa w)
    (h63 : n + m ≤ maxLen) (hb : (n + m) * bytes ≤ 140737488355328) :
    ∃ v' w' oa', (Builtin.append_ #[t, tn] ty #[v, .int kv (m : Int)]).run P w = .ok v' w' ∧ OwnB e v' (n + m) (p ++ List.replicate m 0) oa' ∧ Upd w oa w' oa' := by
  obtain ⟨i, zv, hi, hsz, hby, hz, hzc, hzs⟩ := hei.out
  have hxl := hown.own.len
  rw [Nat.mul_one] at hxl
  have hok : BL (n + m) (p ++ List.replicate m 0) := hown.ok.app (BL.rep m 0 (by decide))
  have hnd : (keys oa).Nodup := by rcases hown.own.out with ⟨_, _, rfl⟩ | ⟨g, cap, cur, _, _, _, _, _, rfl⟩ <;> simp [keys]
  have hl2 : (bl (p ++ List.replicate m 0)).length = (n + m) * 1 := by rw [bl_len, hok.len, Nat.mul_one]
  have h63' : n + m ≤ 9223372036854775807 := by simp only [maxLen] at h63; omega
  have hw : IntKind.i64.wrap (m : Int) = m := by rw [IntKind.wrap_i64]; omega
  have hneg : ¬ ((m : Int) < 0) := by omega
  have hmb : m * bytes ≤ 140737488355328 := Nat.le_trans (Nat.mul_le_mul_right _ (by omega)) hb
  have h48i : ¬ (281474976710656 < (m : Int) * (bytes : Int)) := by rw [← Int.natCast_mul]; omega
  have hw0 : IntKind.i64.wrap 0 = 0 := by decide
  by_cases h0 : m = 0
  · subst h0
    refine ⟨v, w, oa, ?_, ⟨by simpa using hown.own, by simpa using hok⟩, rfl, rfl, rfl, Nat.le_refl _, fun _ _ _ => rfl, hnd, hd, fun n hn => .inl hn⟩
    rcases hown.own.out with ⟨rfl, rfl, rfl⟩ | ⟨g, cap, cur, rfl, hnc, hcm, hcs, htake, rfl⟩
    · simp [Builtin.append_, run_underlying ht, run_underlying htn, sizeOf, typeInfo, hi, asInt, asIntOf, hw0]
    · simp [Builtin.append_, run_underlying ht, run_underlying htn, sizeOf, typeInfo, hi, asInt, asIntOf, hw0, hnc, storeCells]
  have size_new : ∀ k, n + m ≤ k → ((bl p).toArray ++ Builtin.zeroCells zv.cells m ++ Builtin.zeroCells zv.cells (k - (n + m))).size = k * 1 := fun k hk => by
    simp only [Array.size_append, List.size_toArray, size_zeroCells, hzc]
    rw [hxl]
    simp only [List.size_toArray, List.length_cons, List.length_nil]
    omega
  have take_new : ∀ k, ((bl p).toArray ++ Builtin.zeroCells zv.cells m ++ Builtin.zeroCells zv.cells (k - (n + m))).toList.take ((n + m) * 1) = bl (p ++ List.replicate m 0) := fun k => by
    rw [Array.toList_append, Array.toList_append, hzc, zeros_one, bl_app, bl_rep, ← hl2, bl_app, bl_rep]
    exact List.take_left
  rcases hown.own.out with ⟨rfl, rfl, rfl⟩ | ⟨g, cap, cur, rfl, hnc, hcm, hcs, htake, rfl⟩
  · have hx : p = [] := List.eq_nil_of_length_eq_zero (by rw [← hown.ok.len])
    subst hx
    have hr := Lib.run_append_nil_zeros (P := P) w t tn ty e i zv kv kn ht htn hi hz m (by omega) (by omega) (by omega) (by rw [hby]; omega)
    have hge := grownCap_ge w m 0 e
    have hcl := grownCap_le_maxLen w m 0 e (by omega)
    have hs := size_new (grownCap w m 0 e) (by omega)
    have htk := take_new (grownCap w m 0 e)
    simp only [Nat.zero_add, bl, List.map_nil, Array.empty_append, List.nil_append] at hs htk hl2 hok ⊢
    exact ⟨_, _, [(w.heap.size, (_, e))], hr, ⟨⟨hl2, .inr ⟨w.heap.size, _, _, rfl, hge, hcl, hs, htk, rfl⟩⟩, hok⟩, upd_new (w := w) (w1 := w.drew) rfl rfl rfl rfl [] _ e⟩
  · have hg : w.heap[g]? = some (.cells cur e (0, 0)) := hd (g, (cur, e)) (by simp)
    by_cases hroom : n + m ≤ cap
    · have hfit : n + (List.replicate m (Value.int .u8 0)).length ≤ cur.size := by rw [List.length_replicate, hcs]; omega
      have hst := run_storeCells_at P g n e (List.replicate m (Value.int .u8 0)) 0 cur w hg (by simpa using hfit) (fun y hy => by rw [(List.mem_replicate.1 hy).2]; rfl)
      simp only [Nat.add_zero] at hst
      have hms : ¬ (m * i.size = 0) := by rw [hsz]; omega
      have hr : (Builtin.append_ #[t, tn] ty #[.slice (some ⟨g, 0, none⟩) n cap, .int kv (m : Int)]).run P w = .ok (.slice (some ⟨g, 0, none⟩) (n + m) cap) (w.setRow g (cur.toList.take n ++ List.replicate m (Value.int .u8 0) ++ cur.toList.drop (n + (List.replicate m (Value.int .u8 0)).length)).toArray) := by
        simp [Builtin.append_, run_underlying ht, run_underlying htn, sizeOf, typeInfo, zeroValue, hi, hz, hsz, hby, asInt, asIntOf, hw, hneg, h0, h48i, hroom, hzc, zeros_one, Addr.add_lit, hst]
      refine ⟨_, _, [(g, (_, e))], hr, ⟨⟨hl2, .inr ⟨g, cap, _, rfl, hroom, hcm, ?_, ?_, rfl⟩⟩, hok⟩, rfl, rfl, rfl, by simp, fun k hk hne => setRow_other w g k _ (fun e => hne (by simp [keys, e])), by simp [keys], hd_one (setRow_heap w g cur _ e _ hg), fun n hn => .inl (by simpa [keys] using hn)⟩
      · simp only [List.size_toArray, List.length_append, List.length_take, List.length_drop, Array.length_toList, List.length_replicate]
        omega
      · rw [Nat.mul_one] at htake
        simp only [htake]
        rw [← hl2, bl_app, bl_rep]
        exact List.take_left
    · have holds : ∀ j y, (bl p)[j]? = some y → w.cell? ((⟨g, 0, none⟩ : Addr).add j) = some y := (hown.own.row hd).cells (g := g) rfl
      have hfc := run_firstCells_some (P := P) w.drew i.size n ⟨g, 0, none⟩ n cap (bl p) (by rw [hxl, hsz, Nat.mul_one]) holds
      have hr := Lib.run_append_grow_zeros (P := P) w t tn ty e i zv kv kn ht htn hi hz (some ⟨g, 0, none⟩) n cap (bl p) hfc m (by omega) (by omega) (by omega) (by omega) (by rw [hby]; omega) (by rw [hby]; exact growslice_fits (by omega) hb)
      have hge := grownCap_ge w (n + m) cap e
      have hcl := grownCap_le_maxLen w (n + m) cap e h63
      exact ⟨_, _, [(w.heap.size, (_, e))], hr, ⟨⟨hl2, .inr ⟨w.heap.size, _, _, rfl, hge, hcl, size_new _ hge, take_new _, rfl⟩⟩, hok⟩, upd_new (w := w) (w1 := w.drew) rfl rfl rfl rfl _ _ e⟩
theorem wl_append0 {x y : Operand} {t tn e bytes n m : Nat} {kn kv : IntKind} {p : List Nat} {oa : Blks} {f : Blks → Blks} {s' : Value → Slots}
    (hg : gd s ops o = some true) (hd : dOk X.N o.dst = true) (hop : o.op = .call { callee := .builtin .append, args := #[x, y], argTypes := #[t, tn] })
    (hx : val s x = some v) (hy : val s y = some (.int kv (m : Int))) [ht : UT X.P t (.slice e)] [htn : UT X.P tn (.int kn)] [hei : EI X.P e 1 bytes #[.int .u8 0]] [hown : OwnB e v n p oa] [hseg : Seg l oa f]
    (h : ∀ v' oa', OwnB e v' (n + m) (p ++ List.replicate m 0) oa' → Wl X ops Q r (s' v') (f oa'))
    (h63 : (n + m) * bytes ≤ 1152921504606846976 ∧ n + m ≤ 1152921504606846976 ∧ (n + m) * bytes ≤ 140737488355328 := by (refine ⟨?_, ?_, ?_⟩ <;> omega))
    (hs' : ∀ v', sputO s o.dst v' = s' v' := by intro _; (try dsimp only [sputO, sput, Nat.reduceBEq, cond_true, cond_false, beq_self_eq_true]); first | done | exact rfl) : Wl X ops Q (o :: r) s l := fun ac w hst => by
  obtain rfl : (fun v' => sputO s o.dst v') = s' := funext hs'
  have hw := gd_wanted hst.env hg
  have hdd : Hd oa w := by
    obtain ⟨pre, post, rfl, _⟩ := hseg.out
    intro p hp
    exact hst.mem.cls.now p.1 p.2.1 p.2.2 (mu_mem_of (by simp [hp]) hst.mem.nd)
  obtain ⟨v', w', oa', hr, ho', hup⟩ := append_zeros (ty := o.type) (kv := kv) (m := m) ht.out htn.out hei hown hdd (by simp only [maxLen]; omega) h63.2.2
  unfold wpList
  rw [if_pos hw]
  refine .inl ?_
  unfold Oper.wp
  have : (execOp ac.eval o).run X.P w = .ok (.value v') w' := by
    simp only [execOp, hop, resolve, invoke, builtin, Sem.run_bind, Sem.run_pure, Result.andThen_ok, List.map_toArray, List.map_cons, List.map_nil, hst.env.eval hx, hst.env.eval hy, hr]
  rw [this]
  exact h v' oa' ho' _ _ ⟨hst.env.put hd _, hup.mem hst.mem⟩
/-- A byte is put into a slice of the walk's own. -/
theorem wl_putB {x y : Operand} {t e n j k : Nat} {u : Value} {p : List Nat} {oa : Blks} {f : Blks → Blks} (hg : gd s ops o = some true) (hd : dOk X.N o.dst = true) (ho : o.op = .store t x y)
    (hx : val s x = some (.pointer (some ⟨elB u, elO u + j, none⟩))) (hy : val s y = some (.int .u8 (k : Int))) [hs : SZ X.P t 1] [hown : OwnB e u n p oa] [hseg : Seg l oa f]
    (h : ∀ oa', OwnB e u n (p.set j k) oa' → Wl X ops Q r s (f oa')) (hj : j < n := by first | (with_reducible assumption) | omega) (hk : k < 256 := by first | (with_reducible assumption) | omega) (hdn : o.dst = none := by rfl) : Wl X ops Q (o :: r) s l := fun ac w hst => by
  have hw := gd_wanted hst.env hg
  have hdd : Hd oa w := by
    obtain ⟨pre, post, rfl, _⟩ := hseg.out
    intro p hp
    exact hst.mem.cls.now p.1 p.2.1 p.2.2 (mu_mem_of (by simp [hp]) hst.mem.nd)
  have hxl := hown.own.len
  rcases hown.own.out with ⟨rfl, rfl, rfl⟩ | ⟨g, cap, cur, rfl, hnc, hcm, hcs, htake, rfl⟩
  · omega
  have hgb : w.heap[g]? = some (.cells cur e (0, 0)) := hdd (g, (cur, e)) (by simp)
  have hlt : 0 + j < cur.size := by omega
  have h1 : (Value.int .u8 (k : Int)).oneCell' = true := rfl
  have hrun := store_run (P := X.P) (ty := t) (off := 0 + j) (v := .int .u8 (k : Int)) (w := w) (.inr ⟨h1, hs.out, hlt⟩) hgb
  have e1 : splice cur (0 + j) (.int .u8 (k : Int)) = cur.setIfInBounds (0 + j) (.int .u8 (k : Int)) := rfl
  rw [e1] at hrun
  unfold wpList
  rw [if_pos hw]
  refine .inl ?_
  unfold Oper.wp
  have hx' := hst.env.eval hx
  have : (execOp ac.eval o).run X.P w = .ok .skip (w.setRow g (cur.setIfInBounds (0 + j) (.int .u8 (k : Int)))) := by
    simp only [execOp, ho, hx', hst.env.eval hy, Instr.storeAt, Instr.sureAddr, Sem.run_bind, Sem.run_pure, Result.andThen_ok, elB, elO, hrun]
  rw [this]
  have hs0 : sputO s o.dst undef = s := by rw [hdn]; rfl
  have hup : Upd w [(g, (cur, e))] (w.setRow g (cur.setIfInBounds (0 + j) (.int .u8 (k : Int)))) [(g, (cur.setIfInBounds (0 + j) (.int .u8 (k : Int)), e))] :=
    ⟨rfl, rfl, rfl, by simp, fun k' hk' hne => setRow_other w g k' _ (fun e => hne (by simp [keys, e])), by simp [keys], hd_one (setRow_heap w g cur _ e _ hgb), fun n hn => .inl (by simpa [keys] using hn)⟩
  refine (show Wl X ops Q r (sputO s o.dst undef) (f [(g, (cur.setIfInBounds (0 + j) (.int .u8 (k : Int)), e))]) from by
    rw [hs0]
    refine h _ ⟨⟨by rw [bl_len, List.length_set, hown.ok.len, Nat.mul_one], .inr ⟨g, cap, _, rfl, hnc, hcm, by simpa using hcs, ?_, rfl⟩⟩, hown.ok.set hk⟩
    rw [Nat.zero_add, Array.toList_setIfInBounds, List.take_set, htake, bl_set]) _ _ ⟨hst.env.put hd _, hup.mem hst.mem⟩
end
end Go.Proofs.YtkbgkobbadjpnaaDoor
namespace Go.Proofs.YtkbgkobbadjpnaaDoor
open Go.RowKit
set_option linter.unusedVariables false
set_option linter.unusedSimpArgs false
def byteN (a j : Nat) : Nat := a / 2 ^ (8 * j) % 256
def byteCells (f : Nat → Nat) : Array Value := ((List.range 32).map fun j => Value.int .u8 (f j : Nat)).toArray
theorem byteCells_set (f : Nat → Nat) (k v : Nat) (hk : k < 32) : (byteCells f).setIfInBounds k (.int .u8 (v : Nat)) = byteCells (fun j => if j = k then v else f j) := by
  unfold byteCells
  rw [List.setIfInBounds_toArray]
  congr 1
  apply List.ext_getElem (by simp)
  intro i h1 h2
  simp only [List.getElem_set, List.getElem_map, List.getElem_range]
  by_cases h : i = k
  · subst h; simp
  · rw [if_neg (fun e => h e.symm), if_neg h]
theorem byteZero : #[.int .u8 0, .int .u8 0, .int .u8 0, .int .u8 0, .int .u8 0, .int .u8 0, .int .u8 0, .int .u8 0, .int .u8 0, .int .u8 0, .int .u8 0, .int .u8 0, .int .u8 0, .int .u8 0, .int .u8 0, .int .u8 0, .int .u8 0, .int .u8 0, .int .u8 0, .int .u8 0, .int .u8 0, .int .u8 0, .int .u8 0, .int .u8 0, .int .u8 0, .int .u8 0, .int .u8 0, .int .u8 0, .int .u8 0, .int .u8 0, .int .u8 0, .int .u8 0] = byteCells (fun _ => 0) := rfl
theorem byteCells_get (f : Nat → Nat) (k : Nat) (hk : k < 32) : (byteCells f)[k]? = some (.int .u8 (f k : Nat)) := by
  unfold byteCells; simp [hk]
theorem byteUpto (a k : Nat) (hk : k < 32) : (byteCells fun j => if j < k then byteN a j else 0).setIfInBounds k (.int .u8 (byteN a k : Nat)) = byteCells fun j => if j < k + 1 then byteN a j else 0 := by
  rw [byteCells_set _ _ _ hk]
  congr 1; funext j
  by_cases h : j = k
  · subst h; simp
  · rw [if_neg h]
    by_cases h' : j < k
    · rw [if_pos h', if_pos (by omega)]
    · rw [if_neg h', if_neg (by omega)]
theorem byteCells_all (f : Nat → Nat) : (byteCells fun j => if j < 32 then f j else 0) = byteCells f := by
  unfold byteCells
  congr 1
theorem byteCells_one (f : Nat → Nat) : (byteCells f).all (·.oneCell') = true := by
  unfold byteCells; simp [Value.oneCell']
theorem byte_plain (a q r : Nat) (hr : r < 8) : ((lw a q / 2 ^ (r * 8) : Nat) : Int) % 256 = (byteN a (8 * q + r) : Nat) := by
  have : lw a q / 2 ^ (r * 8) % 256 = byteN a (8 * q + r) := by
    unfold byteN
    show lw a q / 2 ^ (r * 8) % 2 ^ 8 = a / 2 ^ (8 * (8 * q + r)) % 2 ^ 8
    apply Nat.eq_of_testBit_eq; intro j
    rw [Nat.testBit_mod_two_pow, Nat.testBit_mod_two_pow, Nat.testBit_div_two_pow, Nat.testBit_div_two_pow, lw_bit]
    by_cases hj : j < 8
    · rw [decide_eq_true (by omega : j + r * 8 < 64), show 64 * q + (j + r * 8) = j + 8 * (8 * q + r) by omega]; simp
    · simp [hj]
  omega
set_option maxRecDepth 20000 in
set_option maxHeartbeats 2000000 in
theorem bytes_all (a : Nat) (ha : a < T256) (w : World) : Calls Tryd.prog 24 #[num a] w (Ret (.agg (byteCells (byteN a))) w) := by
  go_enter Tryd.func24, Tryd.ntmps24
  go_wp2_with fail
  go_loopw [4, 5] (fun t i wr => ∃ k : Nat, k ≤ 32 ∧ i = .int .i64 k ∧ wr.heap[w.heap.size]? = some (.cells #[.int .u64 (limb a 0), .int .u64 (limb a 1), .int .u64 (limb a 2), .int .u64 (limb a 3)] 29) ∧ wr.heap[w.heap.size + 1]? = some (.cells (byteCells fun _ => 0) 22) ∧ wr.heap[w.heap.size + 1 + 1]? = some (.cells (byteCells fun j => if j < k then byteN a j else 0) 22) ∧ Below w.heap.size w wr)
    (fun _ i _ => 32 - (intOf i).toNat)
  case atStart =>
    refine ⟨0, by omega, rfl, ?_, ?_, ?_, ?_⟩
    · (repeat' (first | (with_reducible exact nw) | (with_reducible exact nw1) | (with_reducible exact nw2) | (with_reducible exact nw3) | (with_reducible exact nw4) | (with_reducible exact nw5) | (with_reducible assumption) | (with_reducible apply ho) | (with_reducible apply hdr) | (with_reducible apply Grow.heap) | (with_reducible apply hrow) | (with_reducible apply hset) | (with_reducible apply hrow_other) | (with_reducible apply hset_other) | (go_simp; done) | omega))
    · rw [← byteZero]
      (repeat' (first | (with_reducible exact nw) | (with_reducible exact nw1) | (with_reducible exact nw2) | (with_reducible exact nw3) | (with_reducible exact nw4) | (with_reducible exact nw5) | (with_reducible assumption) | (with_reducible apply ho) | (with_reducible apply hdr) | (with_reducible apply Grow.heap) | (with_reducible apply hrow) | (with_reducible apply hset) | (with_reducible apply hrow_other) | (with_reducible apply hset_other) | (go_simp; done) | omega))
    · rw [show (fun j => if j < 0 then byteN a j else 0) = fun _ => 0 by funext j; simp, ← byteZero]
      (repeat' (first | (with_reducible exact nw) | (with_reducible exact nw1) | (with_reducible exact nw2) | (with_reducible exact nw3) | (with_reducible exact nw4) | (with_reducible exact nw5) | (with_reducible assumption) | (with_reducible apply ho) | (with_reducible apply hdr) | (with_reducible apply Grow.heap) | (with_reducible apply hrow) | (with_reducible apply hset) | (with_reducible apply hrow_other) | (with_reducible apply hset_other) | (go_simp; done) | omega))
    · repeat' (first | (with_reducible exact Below.refl _ _) | (with_reducible assumption) | (with_reducible refine up_alloc ?_ _) | (with_reducible refine up ?_ _) | (with_reducible refine up_drew ?_) | (with_reducible refine up_row ?_ ?_ _) | (with_reducible refine up_set ?_ ?_ _) | ((try dsimp only); first | omega | exact le_size | exact le_size1 | exact le_size2 | exact le_size3))
  case round =>
    obtain ⟨k, hk, rfl, h1, h2, h3, hB⟩ := hrel
    have ⟨r1, z1, l1⟩ := rules h1
    have I1 : LtSize w.heap.size wr := ⟨l1⟩
    have ⟨r3, z3, l3⟩ := rules h3
    have l2 := blk_lt h2
    have I2 : LtSize (w.heap.size + 1) wr := ⟨l2⟩
    have I3 : LtSize (w.heap.size + 1 + 1) wr := ⟨l3⟩
    by_cases hk' : k < 32
    · have c3 : wr.cell? ⟨w.heap.size + 1 + 1, k, none⟩ = some (.int .u8 0) := by
        rw [r3, byteCells_get _ _ hk', if_neg (by omega)]; rfl
      clear r3
      obtain ⟨q, r, hr, hq4, hk0⟩ : ∃ q r, r < 8 ∧ q < 4 ∧ k = 8 * q + r := ⟨k / 8, k % 8, Nat.mod_lt _ (by omega), by omega, (Nat.div_add_mod _ _).symm⟩
      have e2 : (k : Int) % 8 = r := by omega
      have hq : q = 0 ∨ q = 1 ∨ q = 2 ∨ q = 3 := by omega
      have fin : limb a q / 2 ^ (r * 8) % 256 = (byteN a k : Nat) := by
        rw [limb_lw, int_shr, hk0]
        have := byte_plain a q r hr
        omega
      clear hq4
      rcases hq with rfl | rfl | rfl | rfl
      · have e1 : (k : Int) / 8 = 0 := by omega
        clear hk0
        go_wp2_with fail
        go_roundw
        case rel =>
          refine ⟨k + 1, by omega, by go_num, ?_, ?_, ?_, ?_⟩
          · (repeat' (first | (with_reducible exact nw) | (with_reducible exact nw1) | (with_reducible exact nw2) | (with_reducible exact nw3) | (with_reducible exact nw4) | (with_reducible exact nw5) | (with_reducible assumption) | (with_reducible apply ho) | (with_reducible apply hdr) | (with_reducible apply Grow.heap) | (with_reducible apply hrow) | (with_reducible apply hset) | (with_reducible apply hrow_other) | (with_reducible apply hset_other) | (go_simp; done) | omega))
          · (repeat' (first | (with_reducible exact nw) | (with_reducible exact nw1) | (with_reducible exact nw2) | (with_reducible exact nw3) | (with_reducible exact nw4) | (with_reducible exact nw5) | (with_reducible assumption) | (with_reducible apply ho) | (with_reducible apply hdr) | (with_reducible apply Grow.heap) | (with_reducible apply hrow) | (with_reducible apply hset) | (with_reducible apply hrow_other) | (with_reducible apply hset_other) | (go_simp; done) | omega))
          · rw [← byteUpto a k hk']
            (repeat' (first | (with_reducible exact nw) | (with_reducible exact nw1) | (with_reducible exact nw2) | (with_reducible exact nw3) | (with_reducible exact nw4) | (with_reducible exact nw5) | (with_reducible assumption) | (with_reducible apply ho) | (with_reducible apply hdr) | (with_reducible apply Grow.heap) | (with_reducible apply hrow) | (with_reducible apply hset) | (with_reducible apply hrow_other) | (with_reducible apply hset_other) | (go_simp; done) | omega))
          · repeat' (first | (with_reducible exact Below.refl _ _) | (with_reducible assumption) | (with_reducible refine up_alloc ?_ _) | (with_reducible refine up ?_ _) | (with_reducible refine up_drew ?_) | (with_reducible refine up_row ?_ ?_ _) | (with_reducible refine up_set ?_ ?_ _) | ((try dsimp only); first | omega | exact le_size | exact le_size1 | exact le_size2 | exact le_size3))
        case measure => simp [intOf]; omega
      · have e1 : (k : Int) / 8 = 1 := by omega
        clear hk0
        go_wp2_with fail
        go_roundw
        case rel =>
          refine ⟨k + 1, by omega, by go_num, ?_, ?_, ?_, ?_⟩
          · (repeat' (first | (with_reducible exact nw) | (with_reducible exact nw1) | (with_reducible exact nw2) | (with_reducible exact nw3) | (with_reducible exact nw4) | (with_reducible exact nw5) | (with_reducible assumption) | (with_reducible apply ho) | (with_reducible apply hdr) | (with_reducible apply Grow.heap) | (with_reducible apply hrow) | (with_reducible apply hset) | (with_reducible apply hrow_other) | (with_reducible apply hset_other) | (go_simp; done) | omega))
          · (repeat' (first | (with_reducible exact nw) | (with_reducible exact nw1) | (with_reducible exact nw2) | (with_reducible exact nw3) | (with_reducible exact nw4) | (with_reducible exact nw5) | (with_reducible assumption) | (with_reducible apply ho) | (with_reducible apply hdr) | (with_reducible apply Grow.heap) | (with_reducible apply hrow) | (with_reducible apply hset) | (with_reducible apply hrow_other) | (with_reducible apply hset_other) | (go_simp; done) | omega))
          · rw [← byteUpto a k hk']
            (repeat' (first | (with_reducible exact nw) | (with_reducible exact nw1) | (with_reducible exact nw2) | (with_reducible exact nw3) | (with_reducible exact nw4) | (with_reducible exact nw5) | (with_reducible assumption) | (with_reducible apply ho) | (with_reducible apply hdr) | (with_reducible apply Grow.heap) | (with_reducible apply hrow) | (with_reducible apply hset) | (with_reducible apply hrow_other) | (with_reducible apply hset_other) | (go_simp; done) | omega))
          · repeat' (first | (with_reducible exact Below.refl _ _) | (with_reducible assumption) | (with_reducible refine up_alloc ?_ _) | (with_reducible refine up ?_ _) | (with_reducible refine up_drew ?_) | (with_reducible refine up_row ?_ ?_ _) | (with_reducible refine up_set ?_ ?_ _) | ((try dsimp only); first | omega | exact le_size | exact le_size1 | exact le_size2 | exact le_size3))
        case measure => simp [intOf]; omega
      · have e1 : (k : Int) / 8 = 2 := by omega
        clear hk0
        go_wp2_with fail
        go_roundw
        case rel =>
          refine ⟨k + 1, by omega, by go_num, ?_, ?_, ?_, ?_⟩
          · (repeat' (first | (with_reducible exact nw) | (with_reducible exact nw1) | (with_reducible exact nw2) | (with_reducible exact nw3) | (with_reducible exact nw4) | (with_reducible exact nw5) | (with_reducible assumption) | (with_reducible apply ho) | (with_reducible apply hdr) | (with_reducible apply Grow.heap) | (with_reducible apply hrow) | (with_reducible apply hset) | (with_reducible apply hrow_other) | (with_reducible apply hset_other) | (go_simp; done) | omega))
          · (repeat' (first | (with_reducible exact nw) | (with_reducible exact nw1) | (with_reducible exact nw2) | (with_reducible exact nw3) | (with_reducible exact nw4) | (with_reducible exact nw5) | (with_reducible assumption) | (with_reducible apply ho) | (with_reducible apply hdr) | (with_reducible apply Grow.heap) | (with_reducible apply hrow) | (with_reducible apply hset) | (with_reducible apply hrow_other) | (with_reducible apply hset_other) | (go_simp; done) | omega))
          · rw [← byteUpto a k hk']
            (repeat' (first | (with_reducible exact nw) | (with_reducible exact nw1) | (with_reducible exact nw2) | (with_reducible exact nw3) | (with_reducible exact nw4) | (with_reducible exact nw5) | (with_reducible assumption) | (with_reducible apply ho) | (with_reducible apply hdr) | (with_reducible apply Grow.heap) | (with_reducible apply hrow) | (with_reducible apply hset) | (with_reducible apply hrow_other) | (with_reducible apply hset_other) | (go_simp; done) | omega))
          · repeat' (first | (with_reducible exact Below.refl _ _) | (with_reducible assumption) | (with_reducible refine up_alloc ?_ _) | (with_reducible refine up ?_ _) | (with_reducible refine up_drew ?_) | (with_reducible refine up_row ?_ ?_ _) | (with_reducible refine up_set ?_ ?_ _) | ((try dsimp only); first | omega | exact le_size | exact le_size1 | exact le_size2 | exact le_size3))
        case measure => simp [intOf]; omega
      · have e1 : (k : Int) / 8 = 3 := by omega
        clear hk0
        go_wp2_with fail
        go_roundw
        case rel =>
          refine ⟨k + 1, by omega, by go_num, ?_, ?_, ?_, ?_⟩
          · (repeat' (first | (with_reducible exact nw) | (with_reducible exact nw1) | (with_reducible exact nw2) | (with_reducible exact nw3) | (with_reducible exact nw4) | (with_reducible exact nw5) | (with_reducible assumption) | (with_reducible apply ho) | (with_reducible apply hdr) | (with_reducible apply Grow.heap) | (with_reducible apply hrow) | (with_reducible apply hset) | (with_reducible apply hrow_other) | (with_reducible apply hset_other) | (go_simp; done) | omega))
          · (repeat' (first | (with_reducible exact nw) | (with_reducible exact nw1) | (with_reducible exact nw2) | (with_reducible exact nw3) | (with_reducible exact nw4) | (with_reducible exact nw5) | (with_reducible assumption) | (with_reducible apply ho) | (with_reducible apply hdr) | (with_reducible apply Grow.heap) | (with_reducible apply hrow) | (with_reducible apply hset) | (with_reducible apply hrow_other) | (with_reducible apply hset_other) | (go_simp; done) | omega))
          · rw [← byteUpto a k hk']
            (repeat' (first | (with_reducible exact nw) | (with_reducible exact nw1) | (with_reducible exact nw2) | (with_reducible exact nw3) | (with_reducible exact nw4) | (with_reducible exact nw5) | (with_reducible assumption) | (with_reducible apply ho) | (with_reducible apply hdr) | (with_reducible apply Grow.heap) | (with_reducible apply hrow) | (with_reducible apply hset) | (with_reducible apply hrow_other) | (with_reducible apply hset_other) | (go_simp; done) | omega))
          · repeat' (first | (with_reducible exact Below.refl _ _) | (with_reducible assumption) | (with_reducible refine up_alloc ?_ _) | (with_reducible refine up ?_ _) | (with_reducible refine up_drew ?_) | (with_reducible refine up_row ?_ ?_ _) | (with_reducible refine up_set ?_ ?_ _) | ((try dsimp only); first | omega | exact le_size | exact le_size1 | exact le_size2 | exact le_size3))
        case measure => simp [intOf]; omega
    · obtain rfl : k = 32 := by omega
      rw [byteCells_all] at h3
      clear r3 z3
      go_wp2_with (first | (refine wpList_load_row rfl 22 _ rfl _ rfl _ _ _ (.array 32 5) h3 (by kernel_rfl) rfl (by kernel_rfl) ?_) | (refine wpList_store_row rfl 22 _ _ rfl _ _ rfl rfl _ _ h2 (by kernel_rfl) rfl (byteCells_one _) ?_))
      refine bodyPost_ret (results_cell_row (ty := 22) rfl _ _ (w.heap.size + 1) _ _ _ (.array 32 5) rfl (hrow h2) (by kernel_rfl) rfl (by kernel_rfl)) rfl ⟨rfl, ?_⟩
      repeat' (first | (with_reducible exact Below.refl _ _) | (with_reducible assumption) | (with_reducible refine up_alloc ?_ _) | (with_reducible refine up ?_ _) | (with_reducible refine up_drew ?_) | (with_reducible refine up_row ?_ ?_ _) | (with_reducible refine up_set ?_ ?_ _) | ((try dsimp only); first | omega | exact le_size | exact le_size1 | exact le_size2 | exact le_size3))
/-- The number whose first k bytes are those. -/
def fb (f : Nat → Nat) : Nat → Nat
  | 0 => 0
  | k + 1 => fb f k + f k * 2 ^ (8 * k)
theorem fb_lt (f : Nat → Nat) (hf : ∀ j, f j < 256) : ∀ k, fb f k < 2 ^ (8 * k)
  | 0 => by simp [fb]
  | k + 1 => by
    have h := fb_lt f hf k
    unfold fb
    rw [show 8 * (k + 1) = 8 * k + 8 by omega, Nat.pow_add]
    have : (f k + 1) * 2 ^ (8 * k) ≤ 256 * 2 ^ (8 * k) := Nat.mul_le_mul_right _ (hf k)
    rw [Nat.add_mul] at this
    omega
theorem fb_bit (f : Nat → Nat) (hf : ∀ j, f j < 256) (k j : Nat) : (fb f (k + 1)).testBit j = if j < 8 * k then (fb f k).testBit j else (f k).testBit (j - 8 * k) := by
  rw [fb, Nat.add_comm, Nat.mul_comm, Nat.testBit_two_pow_mul_add _ (fb_lt f hf k)]
theorem fb_lw_other (f : Nat → Nat) (hf : ∀ j, f j < 256) (q r i : Nat) (hr : r < 8) (h : i ≠ q) : lw (fb f (8 * q + r + 1)) i = lw (fb f (8 * q + r)) i := by
  apply Nat.eq_of_testBit_eq; intro j
  rw [lw_bit, lw_bit, fb_bit f hf]
  by_cases hj : j < 64
  · by_cases h' : 64 * i + j < 8 * (8 * q + r)
    · rw [if_pos h']
    · rw [if_neg h', Nat.testBit_lt_two_pow (Nat.lt_of_lt_of_le (hf _) (show 256 ≤ 2 ^ (64 * i + j - 8 * (8 * q + r)) from Nat.pow_le_pow_right (show 0 < 2 by omega) (by omega : 8 ≤ _)))]
      rw [Nat.testBit_lt_two_pow (Nat.lt_of_lt_of_le (fb_lt f hf _) (Nat.pow_le_pow_right (by omega) (by omega)))]
  · simp [hj]
theorem fb_lw_same (f : Nat → Nat) (hf : ∀ j, f j < 256) (q r : Nat) (hr : r < 8) : lw (fb f (8 * q + r + 1)) q = lw (fb f (8 * q + r)) q ||| (f (8 * q + r) * 2 ^ (r * 8) % 2 ^ 64) := by
  apply Nat.eq_of_testBit_eq; intro j
  rw [lw_bit, fb_bit f hf, Nat.testBit_or, lw_bit, Nat.testBit_mod_two_pow, Nat.testBit_mul_two_pow]
  by_cases hj : j < 64
  · by_cases h' : 64 * q + j < 8 * (8 * q + r)
    · rw [if_pos h', decide_eq_false (by omega : ¬ j ≥ r * 8)]; simp
    · rw [if_neg h', decide_eq_true (by omega : j ≥ r * 8), Nat.testBit_lt_two_pow (x := fb f (8 * q + r)) (Nat.lt_of_lt_of_le (fb_lt f hf _) (Nat.pow_le_pow_right (by omega) (by omega))), show 64 * q + j - 8 * (8 * q + r) = j - r * 8 by omega]
      simp
  · simp [hj]
theorem index_bytes (f : Nat → Nat) (k : Nat) (hk : k < 32) (w : World) : (Instr.index 22 (.agg (byteCells f)) (.int .i64 (k : Int))).run Tryd.prog w = .ok (.int .u8 (f k : Nat)) w := by
  have hu : Tryd.prog.underlying 22 = some (.array 32 5) := by kernel_rfl
  have h1 : ¬ ((k : Int) < 0 ∨ (32 : Int) ≤ k) := by omega
  have c := byteCells_get f k hk
  simp [Instr.index, run_underlying hu, asIntOf, go_sem]
  rw [if_pos hk, c]
  rfl
set_option maxRecDepth 20000 in
set_option maxHeartbeats 4000000 in
theorem of_walk (f : Nat → Nat) (hf : ∀ j, f j < 256) (n : Nat) (hn : Hid (fb f 32 = n)) (w : World) : Calls Tryd.prog 22 #[.agg (byteCells f)] w (Ret (num n) w) := by
  go_enter Tryd.func22, Tryd.ntmps22
  go_wp2_with (first | (refine wpList_load_row rfl 22 _ rfl _ rfl _ _ _ (.array 32 5) (ho (ho nw)) (by kernel_rfl) rfl (by kernel_rfl) ?_))
  go_loopw [7] (fun i wr => ∃ k : Nat, k ≤ 32 ∧ i = .int .i64 k ∧ wr.heap[w.heap.size + 1]? = some (.cells #[.int .u64 0, .int .u64 0, .int .u64 0, .int .u64 0] 29) ∧ wr.heap[w.heap.size + 1 + 1]? = some (.cells #[.int .u64 (limb (fb f k) 0), .int .u64 (limb (fb f k) 1), .int .u64 (limb (fb f k) 2), .int .u64 (limb (fb f k) 3)] 29) ∧ Below w.heap.size w wr)
    (fun i _ => 32 - (intOf i).toNat)
  case atStart =>
    refine ⟨0, by omega, rfl, ?_, ?_, ?_⟩
    · (repeat' (first | (with_reducible exact nw) | (with_reducible exact nw1) | (with_reducible exact nw2) | (with_reducible exact nw3) | (with_reducible exact nw4) | (with_reducible exact nw5) | (with_reducible assumption) | (with_reducible apply ho) | (with_reducible apply hdr) | (with_reducible apply Grow.heap) | (with_reducible apply hrow) | (with_reducible apply hset) | (with_reducible apply hrow_other) | (with_reducible apply hset_other) | (go_simp; done) | omega))
    · show _ = some (Obj.cells #[.int .u64 (limb 0 0), .int .u64 (limb 0 1), .int .u64 (limb 0 2), .int .u64 (limb 0 3)] _)
      rw [show limb 0 0 = 0 from rfl, show limb 0 1 = 0 from rfl, show limb 0 2 = 0 from rfl, show limb 0 3 = 0 from rfl]
      (repeat' (first | (with_reducible exact nw) | (with_reducible exact nw1) | (with_reducible exact nw2) | (with_reducible exact nw3) | (with_reducible exact nw4) | (with_reducible exact nw5) | (with_reducible assumption) | (with_reducible apply ho) | (with_reducible apply hdr) | (with_reducible apply Grow.heap) | (with_reducible apply hrow) | (with_reducible apply hset) | (with_reducible apply hrow_other) | (with_reducible apply hset_other) | (go_simp; done) | omega))
    · repeat' (first | (with_reducible exact Below.refl _ _) | (with_reducible assumption) | (with_reducible refine up_alloc ?_ _) | (with_reducible refine up ?_ _) | (with_reducible refine up_drew ?_) | (with_reducible refine up_row ?_ ?_ _) | (with_reducible refine up_set ?_ ?_ _) | ((try dsimp only); first | omega | exact le_size | exact le_size1 | exact le_size2 | exact le_size3))
  case round =>
    obtain ⟨k, hk, rfl, h2, h3, hB⟩ := hrel
    have ⟨r3, z3, l3⟩ := rules h3
    have l2 := blk_lt h2
    have I2 : LtSize (w.heap.size + 1) wr := ⟨l2⟩
    have I3 : LtSize (w.heap.size + 1 + 1) wr := ⟨l3⟩
    by_cases hk' : k < 32
    · have c := byteCells_get f k hk'
      have f0 : (0 : Int) ≤ f k := by omega
      have f1 : (f k : Int) ≤ 255 := by have := hf k; omega
      obtain ⟨q, r, hr, hq4, hk0⟩ : ∃ q r, r < 8 ∧ q < 4 ∧ k = 8 * q + r := ⟨k / 8, k % 8, Nat.mod_lt _ (by omega), by omega, (Nat.div_add_mod _ _).symm⟩
      have e2 : (k : Int) % 8 = r := by omega
      have ix := fun w => index_bytes f k hk' w
      have hq : q = 0 ∨ q = 1 ∨ q = 2 ∨ q = 3 := by omega
      have fin : bits .or .u64 (limb (fb f k) q) (IntKind.u64.wrap ((f k : Int) * 2 ^ (r * 8))) = limb (fb f (k + 1)) q := by
        rw [limb_lw, limb_lw, int_shl, int_or _ _ (lw_lt _ _) (up_lt _ _), hk0, fb_lw_same f hf q r hr]
      clear hq4
      rcases hq with rfl | rfl | rfl | rfl
      · have e1 : (k : Int) / 8 = 0 := by omega
        have o1 : limb (fb f (k + 1)) 1 = limb (fb f k) 1 := by rw [limb_lw, limb_lw, hk0, fb_lw_other f hf 0 r 1 hr (by omega)]
        have o2 : limb (fb f (k + 1)) 2 = limb (fb f k) 2 := by rw [limb_lw, limb_lw, hk0, fb_lw_other f hf 0 r 2 hr (by omega)]
        have o3 : limb (fb f (k + 1)) 3 = limb (fb f k) 3 := by rw [limb_lw, limb_lw, hk0, fb_lw_other f hf 0 r 3 hr (by omega)]
        rw [← o1, ← o2, ← o3] at h3
        have e := hset (i := 0) (v := .int .u64 (limb (fb f (k + 1)) 0)) h3
        simp only [List.setIfInBounds_toArray, List.set_cons_zero, List.set_cons_succ] at e
        clear hk0 h3 o1 o2 o3
        go_wp2_with fail
        go_roundw
        case rel =>
          refine ⟨k + 1, by omega, by go_num, ?_, ?_, ?_⟩
          · (repeat' (first | (with_reducible exact nw) | (with_reducible exact nw1) | (with_reducible exact nw2) | (with_reducible exact nw3) | (with_reducible exact nw4) | (with_reducible exact nw5) | (with_reducible assumption) | (with_reducible apply ho) | (with_reducible apply hdr) | (with_reducible apply Grow.heap) | (with_reducible apply hrow) | (with_reducible apply hset) | (with_reducible apply hrow_other) | (with_reducible apply hset_other) | (go_simp; done) | omega))
          · exact e
          · repeat' (first | (with_reducible exact Below.refl _ _) | (with_reducible assumption) | (with_reducible refine up_alloc ?_ _) | (with_reducible refine up ?_ _) | (with_reducible refine up_drew ?_) | (with_reducible refine up_row ?_ ?_ _) | (with_reducible refine up_set ?_ ?_ _) | ((try dsimp only); first | omega | exact le_size | exact le_size1 | exact le_size2 | exact le_size3))
        case measure => simp [intOf]; omega
      · have e1 : (k : Int) / 8 = 1 := by omega
        have o1 : limb (fb f (k + 1)) 0 = limb (fb f k) 0 := by rw [limb_lw, limb_lw, hk0, fb_lw_other f hf 1 r 0 hr (by omega)]
        have o2 : limb (fb f (k + 1)) 2 = limb (fb f k) 2 := by rw [limb_lw, limb_lw, hk0, fb_lw_other f hf 1 r 2 hr (by omega)]
        have o3 : limb (fb f (k + 1)) 3 = limb (fb f k) 3 := by rw [limb_lw, limb_lw, hk0, fb_lw_other f hf 1 r 3 hr (by omega)]
        rw [← o1, ← o2, ← o3] at h3
        have e := hset (i := 1) (v := .int .u64 (limb (fb f (k + 1)) 1)) h3
        simp only [List.setIfInBounds_toArray, List.set_cons_zero, List.set_cons_succ] at e
        clear hk0 h3 o1 o2 o3
        go_wp2_with fail
        go_roundw
        case rel =>
          refine ⟨k + 1, by omega, by go_num, ?_, ?_, ?_⟩
          · (repeat' (first | (with_reducible exact nw) | (with_reducible exact nw1) | (with_reducible exact nw2) | (with_reducible exact nw3) | (with_reducible exact nw4) | (with_reducible exact nw5) | (with_reducible assumption) | (with_reducible apply ho) | (with_reducible apply hdr) | (with_reducible apply Grow.heap) | (with_reducible apply hrow) | (with_reducible apply hset) | (with_reducible apply hrow_other) | (with_reducible apply hset_other) | (go_simp; done) | omega))
          · exact e
          · repeat' (first | (with_reducible exact Below.refl _ _) | (with_reducible assumption) | (with_reducible refine up_alloc ?_ _) | (with_reducible refine up ?_ _) | (with_reducible refine up_drew ?_) | (with_reducible refine up_row ?_ ?_ _) | (with_reducible refine up_set ?_ ?_ _) | ((try dsimp only); first | omega | exact le_size | exact le_size1 | exact le_size2 | exact le_size3))
        case measure => simp [intOf]; omega
      · have e1 : (k : Int) / 8 = 2 := by omega
        have o1 : limb (fb f (k + 1)) 0 = limb (fb f k) 0 := by rw [limb_lw, limb_lw, hk0, fb_lw_other f hf 2 r 0 hr (by omega)]
        have o2 : limb (fb f (k + 1)) 1 = limb (fb f k) 1 := by rw [limb_lw, limb_lw, hk0, fb_lw_other f hf 2 r 1 hr (by omega)]
        have o3 : limb (fb f (k + 1)) 3 = limb (fb f k) 3 := by rw [limb_lw, limb_lw, hk0, fb_lw_other f hf 2 r 3 hr (by omega)]
        rw [← o1, ← o2, ← o3] at h3
        have e := hset (i := 2) (v := .int .u64 (limb (fb f (k + 1)) 2)) h3
        simp only [List.setIfInBounds_toArray, List.set_cons_zero, List.set_cons_succ] at e
        clear hk0 h3 o1 o2 o3
        go_wp2_with fail
        go_roundw
        case rel =>
          refine ⟨k + 1, by omega, by go_num, ?_, ?_, ?_⟩
          · (repeat' (first | (with_reducible exact nw) | (with_reducible exact nw1) | (with_reducible exact nw2) | (with_reducible exact nw3) | (with_reducible exact nw4) | (with_reducible exact nw5) | (with_reducible assumption) | (with_reducible apply ho) | (with_reducible apply hdr) | (with_reducible apply Grow.heap) | (with_reducible apply hrow) | (with_reducible apply hset) | (with_reducible apply hrow_other) | (with_reducible apply hset_other) | (go_simp; done) | omega))
          · exact e
          · repeat' (first | (with_reducible exact Below.refl _ _) | (with_reducible assumption) | (with_reducible refine up_alloc ?_ _) | (with_reducible refine up ?_ _) | (with_reducible refine up_drew ?_) | (with_reducible refine up_row ?_ ?_ _) | (with_reducible refine up_set ?_ ?_ _) | ((try dsimp only); first | omega | exact le_size | exact le_size1 | exact le_size2 | exact le_size3))
        case measure => simp [intOf]; omega
      · have e1 : (k : Int) / 8 = 3 := by omega
        have o1 : limb (fb f (k + 1)) 0 = limb (fb f k) 0 := by rw [limb_lw, limb_lw, hk0, fb_lw_other f hf 3 r 0 hr (by omega)]
        have o2 : limb (fb f (k + 1)) 1 = limb (fb f k) 1 := by rw [limb_lw, limb_lw, hk0, fb_lw_other f hf 3 r 1 hr (by omega)]
        have o3 : limb (fb f (k + 1)) 2 = limb (fb f k) 2 := by rw [limb_lw, limb_lw, hk0, fb_lw_other f hf 3 r 2 hr (by omega)]
        rw [← o1, ← o2, ← o3] at h3
        have e := hset (i := 3) (v := .int .u64 (limb (fb f (k + 1)) 3)) h3
        simp only [List.setIfInBounds_toArray, List.set_cons_zero, List.set_cons_succ] at e
        clear hk0 h3 o1 o2 o3
        go_wp2_with fail
        go_roundw
        case rel =>
          refine ⟨k + 1, by omega, by go_num, ?_, ?_, ?_⟩
          · (repeat' (first | (with_reducible exact nw) | (with_reducible exact nw1) | (with_reducible exact nw2) | (with_reducible exact nw3) | (with_reducible exact nw4) | (with_reducible exact nw5) | (with_reducible assumption) | (with_reducible apply ho) | (with_reducible apply hdr) | (with_reducible apply Grow.heap) | (with_reducible apply hrow) | (with_reducible apply hset) | (with_reducible apply hrow_other) | (with_reducible apply hset_other) | (go_simp; done) | omega))
          · exact e
          · repeat' (first | (with_reducible exact Below.refl _ _) | (with_reducible assumption) | (with_reducible refine up_alloc ?_ _) | (with_reducible refine up ?_ _) | (with_reducible refine up_drew ?_) | (with_reducible refine up_row ?_ ?_ _) | (with_reducible refine up_set ?_ ?_ _) | ((try dsimp only); first | omega | exact le_size | exact le_size1 | exact le_size2 | exact le_size3))
        case measure => simp [intOf]; omega
    · obtain rfl : k = 32 := by omega
      clear r3 z3
      rw [hn.out] at h3
      go_wp2_with (first | (refine wpList_load_row rfl 29 _ rfl _ rfl _ _ _ (.array 4 27) h3 (by kernel_rfl) rfl (by kernel_rfl) ?_) | (refine wpList_store_row rfl 29 _ _ rfl _ _ rfl rfl _ _ h2 (by kernel_rfl) rfl (by simp [Value.oneCell']) ?_))
      refine bodyPost_ret (results_cell_row (ty := 29) rfl _ _ (w.heap.size + 1) _ _ _ (.array 4 27) rfl (hrow h2) (by kernel_rfl) rfl (by kernel_rfl)) rfl ⟨rfl, ?_⟩
      repeat' (first | (with_reducible exact Below.refl _ _) | (with_reducible assumption) | (with_reducible refine up_alloc ?_ _) | (with_reducible refine up ?_ _) | (with_reducible refine up_drew ?_) | (with_reducible refine up_row ?_ ?_ _) | (with_reducible refine up_set ?_ ?_ _) | ((try dsimp only); first | omega | exact le_size | exact le_size1 | exact le_size2 | exact le_size3))
theorem of_all (f : Nat → Nat) (hf : ∀ j, f j < 256) (w : World) : Calls Tryd.prog 22 #[.agg (byteCells f)] w (Ret (num (fb f 32)) w) :=
  of_walk f hf _ (show Hid _ from rfl) w
end Go.Proofs.YtkbgkobbadjpnaaDoor
namespace Go.Proofs.YtkbgkobbadjpnaaDoor
open Go.RowKit
set_option linter.unusedVariables false
def bytesC (n : Nat) : Array Value := byteCells (byteN n)
abbrev bv (n : Nat) : Value := .agg (bytesC n)
theorem byteN_lt (a j : Nat) : byteN a j < 256 := Nat.mod_lt _ (by decide)
theorem bytesC_size (n : Nat) : (bytesC n).size = 32 := by unfold bytesC byteCells; simp
instance bytesC_cells (n : Nat) : Cells (bytesC n) 32 := ⟨bytesC_size n, byteCells_one _⟩
theorem bytesC_get (n k : Nat) (hk : k < 32) : (bytesC n)[k]? = some (.int .u8 (byteN n k : Nat)) := byteCells_get _ k hk
theorem byteCells_congr {f g : Nat → Nat} (h : ∀ j, j < 32 → f j = g j) : byteCells f = byteCells g := by
  apply Array.ext_getElem?
  intro i
  by_cases hi : i < 32
  · rw [byteCells_get _ i hi, byteCells_get _ i hi, h i hi]
  · rw [Array.getElem?_eq_none (by unfold byteCells; simp; omega), Array.getElem?_eq_none (by unfold byteCells; simp; omega)]
theorem bytesC_put (n n' k v : Nat) (hk : k < 32) (hv : v = byteN n' k) (ho : ∀ j, j < 32 → j ≠ k → byteN n j = byteN n' j) : putC (bytesC n) k (.int .u8 (v : Nat)) = bytesC n' := by
  unfold putC bytesC
  rw [byteCells_set _ k v hk]
  apply byteCells_congr
  intro j hj
  by_cases h : j = k
  · rw [if_pos h, h, hv]
  · rw [if_neg h, ho j hj h]
theorem fb_byteN (n : Nat) : ∀ k, fb (byteN n) k = n % 2 ^ (8 * k)
  | 0 => by unfold fb; rw [Nat.mul_zero, Nat.pow_zero, Nat.mod_one]
  | k + 1 => by
    have ih := fb_byteN n k
    apply Nat.eq_of_testBit_eq
    intro j
    rw [fb_bit _ (byteN_lt n), ih, Nat.testBit_mod_two_pow, Nat.testBit_mod_two_pow]
    split
    · rename_i h
      rw [decide_eq_true (show j < 8 * k from h), decide_eq_true (show j < 8 * (k + 1) by omega)]
    · rename_i h
      unfold byteN
      rw [show (256 : Nat) = 2 ^ 8 from rfl, Nat.testBit_mod_two_pow, Nat.testBit_div_two_pow, show j - 8 * k + 8 * k = j by omega]
      congr 1
      rw [decide_eq_decide]
      omega
theorem bytes_bv (a : Nat) (ha : a < T256) (w : World) : Calls Tryd.prog 24 [nu a].toArray w (Ret (bv a) w) := by
  have := bytes_all a ha w
  rw [nu_num] at this
  exact this
theorem of_bv (a : Nat) (ha : a < T256) (w : World) : Calls Tryd.prog 22 [bv a].toArray w (Ret (nu a) w) := by
  have := of_all (byteN a) (byteN_lt a) w
  rw [fb_byteN, nu_num, show 2 ^ (8 * 32) = T256 from T256_eq.symm, Nat.mod_eq_of_lt ha] at this
  exact this
theorem byteCells_bv (f : Nat → Nat) (hf : ∀ j, f j < 256) : ∃ n, n < T256 ∧ byteCells f = bytesC n := by
  refine ⟨fb f 32, by rw [T256_eq]; exact fb_lt f hf 32, ?_⟩
  apply byteCells_congr
  intro j hj
  apply Nat.eq_of_testBit_eq
  intro i
  unfold byteN
  rw [show (256 : Nat) = 2 ^ 8 from rfl, Nat.testBit_mod_two_pow, Nat.testBit_div_two_pow]
  have key : ∀ k, j < k → i < 8 → (fb f k).testBit (i + 8 * j) = (f j).testBit i := by
    intro k
    induction k with
    | zero => intro h; omega
    | succ k ih =>
      intro h hi
      rw [fb_bit f hf]
      by_cases hjk : j < k
      · rw [if_pos (by omega)]; exact ih hjk hi
      · obtain rfl : j = k := by omega
        rw [if_neg (by omega), show i + 8 * j - 8 * j = i by omega]
  by_cases hi : i < 8
  · rw [decide_eq_true hi, Bool.true_and, key 32 hj hi]
  · rw [decide_eq_false hi, Bool.false_and]
    exact Nat.testBit_lt_two_pow (Nat.lt_of_lt_of_le (hf j) (by
      rw [show (256 : Nat) = 2 ^ 8 from rfl]; exact Nat.pow_le_pow_right (by decide) (by omega)))
attribute [irreducible] bytesC
end Go.Proofs.YtkbgkobbadjpnaaDoor
namespace Go.Proofs.YtkbgkobbadjpnaaDoor
open Go.RowKit
set_option linter.unusedVariables false
set_option linter.unusedSimpArgs false
set_option maxRecDepth 100000
/-! ### Bytes as a number -/
def gf (p : List Nat) (i : Nat) : Nat := p.getD i 0
def fbl (p : List Nat) : Nat := fb (gf p) p.length
theorem gf_lt {n : Nat} {p : List Nat} (h : BL n p) (i : Nat) : gf p i < 256 := by
  unfold gf
  rw [List.getD_eq_getElem?_getD]
  cases hx : p[i]? with
  | none => simp
  | some x => exact h.by' x (List.mem_of_getElem? hx)
theorem fb_congr {f g : Nat → Nat} : ∀ {k : Nat}, (∀ i, i < k → f i = g i) → fb f k = fb g k
  | 0, _ => rfl
  | k + 1, h => by
    rw [fb, fb, fb_congr (fun i hi => h i (by omega)), h k (by omega)]
theorem fb_add (f : Nat → Nat) (n : Nat) : ∀ k, fb f (n + k) = fb f n + 2 ^ (8 * n) * fb (fun i => f (n + i)) k
  | 0 => by simp [fb]
  | k + 1 => by
    rw [← Nat.add_assoc, fb, fb, fb_add f n k, Nat.mul_add 8, Nat.pow_add, Nat.mul_add (2 ^ (8 * n)), Nat.mul_left_comm (f (n + k)), Nat.add_assoc]
theorem fb_zero : ∀ k, fb (fun _ => 0) k = 0
  | 0 => rfl
  | k + 1 => by rw [fb, fb_zero k]; simp
def lb (a : Nat) : List Nat := (List.range 32).map (byteN a)
theorem lb_len (a : Nat) : (lb a).length = 32 := by simp [lb]
theorem lb_ok (a : Nat) : BL 32 (lb a) := ⟨lb_len a, fun x hx => by
  obtain ⟨j, _, rfl⟩ := List.mem_map.1 hx
  exact byteN_lt a j⟩
theorem lb_get (a : Nat) {i : Nat} (h : i < 32) : gf (lb a) i = byteN a i := by simp [gf, lb, h]
theorem lb_cells (a : Nat) : bys (lb a) = byteCells (byteN a) := by
  unfold bys bl byteCells lb
  rw [List.map_map]; rfl
instance (a : Nat) : Cells (bys (lb a)) 32 := ⟨(seg_bys (lb_len a)).size, (seg_bys (lb_len a)).one⟩
instance (a : Nat) : SegL (bys (lb a)) 32 := seg_bys (lb_len a)
instance (a : Nat) : BLc 32 (lb a) := ⟨lb_ok a, by decide⟩
theorem fbl_lb {a : Nat} (h : a < T256) : fbl (lb a) = a := by
  unfold fbl
  rw [lb_len, fb_congr (fun i hi => lb_get a hi), fb_byteN, show 2 ^ (8 * 32) = T256 from T256_eq.symm, Nat.mod_eq_of_lt h]
theorem fbl_app (p q : List Nat) : fbl (p ++ q) = fbl p + 2 ^ (8 * p.length) * fbl q := by
  unfold fbl
  rw [List.length_append, fb_add]
  congr 1
  · exact fb_congr fun i hi => by simp [gf, List.getElem?_append, hi]
  · congr 1
    exact fb_congr fun i hi => by simp [gf, List.getElem?_append, show ¬ (p.length + i < p.length) by omega]
theorem fbl_rep (m : Nat) : fbl (List.replicate m 0) = 0 := by
  unfold fbl
  rw [fb_congr (g := fun _ => 0) (fun i hi => by
    rw [List.length_replicate] at hi
    simp [gf, List.getElem?_replicate, hi]), fb_zero]
theorem fbl_two {a b : Nat} (ha : a < T256) (hb : b < T256) : fbl (lb a ++ lb b) = a + T256 * b := by
  rw [fbl_app, fbl_lb ha, fbl_lb hb, lb_len, show 2 ^ (8 * 32) = T256 from T256_eq.symm]
theorem fbl_noughts {a : Nat} (ha : a < T256) (m : Nat) : fbl (lb a ++ List.replicate m 0) = a := by
  rw [fbl_app, fbl_lb ha, fbl_rep, Nat.mul_zero, Nat.add_zero]
set_option exponentiation.threshold 600 in
theorem fbl_lt {n : Nat} {p : List Nat} (h : BL n p) (hn : n ≤ 64) : fbl p < T512 := by
  have h1 := fb_lt (gf p) (gf_lt h) p.length
  refine Nat.lt_of_lt_of_le h1 ?_
  rw [T512_eq]
  exact Nat.pow_le_pow_right (by decide) (by rw [h.len]; omega)
theorem bytes_lb (a : Nat) (ha : a < T256) (w : World) : Calls Tryd.prog 24 [nu a].toArray w (Ret (.agg (bys (lb a))) w) := by
  have := bytes_all a ha w
  rw [nu_num, ← lb_cells] at this
  exact this
/-! ### Appends to a slice that is full -/
section
variable {X : Cx} {s : Slots} {l : Blks} {o : Oper} {v : Value} {Q : Post} {ops : Array Oper} {r : List Oper}
theorem full_cells {w : World} {b off n : Nat} {c : Nat} {p : List Nat} (h : Cb w (.slice (some ⟨b, off, none⟩) n c) n p) : ∀ j y, (bl p)[j]? = some y → w.cell? ((⟨b, off, none⟩ : Addr).add j) = some y := fun j y hj => by
  obtain ⟨b', off', cap', hv, hc⟩ := h.cs.cell j y hj
  injection hv with hv
  injection hv with hv
  injection hv with hb' ho'
  subst hb'; subst ho'
  rw [Addr.add_mid]; exact hc
theorem append_full {P : Program} {w : World} {t ty e bytes b off n m : Nat} {u : Value} {p q : List Nat} {z : Array Value}
    (ht : P.underlying t = some (.slice e)) (hei : EI P e 1 bytes z) (hv : Cb w (.slice (some ⟨b, off, none⟩) n n) n p) (hu : Cb w u m q) (h0 : 0 < m)
    (h63 : n + m ≤ maxLen) (hb : (n + m) * bytes ≤ 140737488355328) :
    ∃ v' w' oa', (Builtin.append_ #[t, t] ty #[.slice (some ⟨b, off, none⟩) n n, u]).run P w = .ok v' w' ∧ OwnB e v' (n + m) (p ++ q) oa' ∧ Upd w [] w' oa' := by
  obtain ⟨i, zv, hi, hsz, rfl, hz, rfl, hzs⟩ := hei.out
  obtain ⟨pu, cu, rfl, h1, h2, h3⟩ := hu.cs.ln.out
  obtain ⟨b', off', rfl⟩ := h3 h0
  have hsmall : n + m ≤ 9223372036854775807 := by simp only [maxLen] at h63; omega
  have hlp : (bl p).length = n * i.size := by rw [bl_len, hv.ok.len, hsz, Nat.mul_one]
  have hlq : (bl q).length = m * i.size := by rw [bl_len, hu.ok.len, hsz, Nat.mul_one]
  have hr := run_append_grow (P := P) w t ty e i zv ht hi hz ⟨b, off, none⟩ n n (bl p) hlp (full_cells hv) ⟨b', off', none⟩ m cu (bl q) hlq (full_cells hu) (by omega) (by omega) (growslice_fits (by omega) hb)
  have hge := grownCap_ge w (n + m) n e
  have hcl := grownCap_le_maxLen w (n + m) n e h63
  refine ⟨_, _, [(w.heap.size, (_, e))], hr, ⟨⟨by rw [bl_len, List.length_append, hv.ok.len, hu.ok.len, Nat.mul_one], .inr ⟨w.heap.size, _, _, rfl, hge, hcl, ?_, ?_, rfl⟩⟩, hv.ok.app hu.ok⟩, upd_new (w := w) (w1 := w.drew) rfl rfl rfl rfl [] _ e⟩
  · simp only [Array.size_append, List.size_toArray, size_zeroCells, hzs, hlp, hlq, hsz, Nat.mul_one]
    omega
  · simp only [Array.toList_append, List.append_assoc]
    rw [← List.append_assoc, ← bl_app]
    have : (bl (p ++ q)).length = (n + m) * 1 := by rw [bl_len, List.length_append, hv.ok.len, hu.ok.len, Nat.mul_one]
    rw [← this]
    exact List.take_left
theorem append_full0 {P : Program} {w : World} {t tn ty e bytes b off n m : Nat} {kn kv : IntKind} {p : List Nat}
    (ht : P.underlying t = some (.slice e)) (htn : P.underlying tn = some (.int kn)) (hei : EI P e 1 bytes #[.int .u8 0]) (hv : Cb w (.slice (some ⟨b, off, none⟩) n n) n p) (h0 : 0 < m)
    (h63 : n + m ≤ maxLen) (hb : (n + m) * bytes ≤ 140737488355328) :
    ∃ v' w' oa', (Builtin.append_ #[t, tn] ty #[.slice (some ⟨b, off, none⟩) n n, .int kv (m : Int)]).run P w = .ok v' w' ∧ OwnB e v' (n + m) (p ++ List.replicate m 0) oa' ∧ Upd w [] w' oa' := by
  obtain ⟨i, zv, hi, hsz, rfl, hz, hzc, hzs⟩ := hei.out
  have hsmall : n + m ≤ 9223372036854775807 := by simp only [maxLen] at h63; omega
  have hlp : (bl p).length = n * i.size := by rw [bl_len, hv.ok.len, hsz, Nat.mul_one]
  have hmb : m * i.bytes ≤ 140737488355328 := Nat.le_trans (Nat.mul_le_mul_right _ (by omega)) hb
  have hfc := run_firstCells_some (P := P) w.drew i.size n ⟨b, off, none⟩ n n (bl p) hlp (by simpa using full_cells hv)
  have hr := Lib.run_append_grow_zeros (P := P) w t tn ty e i zv kv kn ht htn hi hz (some ⟨b, off, none⟩) n n (bl p) hfc m (by omega) (by omega) (by omega) (by omega) (by omega) (growslice_fits (by omega) hb)
  have hge := grownCap_ge w (n + m) n e
  have hcl := grownCap_le_maxLen w (n + m) n e h63
  refine ⟨_, _, [(w.heap.size, (_, e))], hr, ⟨⟨by rw [bl_len, List.length_append, hv.ok.len, List.length_replicate, Nat.mul_one], .inr ⟨w.heap.size, _, _, rfl, hge, hcl, ?_, ?_, rfl⟩⟩, hv.ok.app (BL.rep m 0 (by decide))⟩, upd_new (w := w) (w1 := w.drew) rfl rfl rfl rfl [] _ e⟩
  · simp only [Array.size_append, List.size_toArray, size_zeroCells, hzc, hlp, hsz, Nat.mul_one]
    simp only [List.size_toArray, List.length_cons, List.length_nil]
    omega
  · simp only [Array.toList_append, hzc, zeros_one]
    rw [show List.replicate m (Value.int .u8 0) = bl (List.replicate m 0) from (bl_rep m 0).symm, ← bl_app]
    have : (bl (p ++ List.replicate m 0)).length = (n + m) * 1 := by rw [bl_len, List.length_append, hv.ok.len, List.length_replicate, Nat.mul_one]
    rw [← this]
    exact List.take_left
theorem wl_appendF {x y : Operand} {t e bytes b off n m : Nat} {z : Array Value} {u : Value} {p q : List Nat} {f : Blks → Blks} {s' : Value → Slots}
    (hg : gd s ops o = some true) (hd : dOk X.N o.dst = true) (hop : o.op = .call { callee := .builtin .append, args := #[x, y], argTypes := #[t, t] })
    (hx : val s x = some (.slice (some ⟨b, off, none⟩) n n)) (hy : val s y = some u) [ht : UT X.P t (.slice e)] [hei : EI X.P e 1 bytes z] [hv : VwB X l (.slice (some ⟨b, off, none⟩) n n) n p] [hu : VwB X l u m q] [hf : Snoc l f]
    (h : ∀ v' oa', OwnB e v' (n + m) (p ++ q) oa' → Wl X ops Q r (s' v') (f oa')) (h0 : 0 < m := by first | (with_reducible assumption) | omega | decide)
    (h63 : (n + m) * bytes ≤ 1152921504606846976 ∧ n + m ≤ 1152921504606846976 ∧ (n + m) * bytes ≤ 140737488355328 := by (refine ⟨?_, ?_, ?_⟩ <;> omega))
    (hs' : ∀ v', sputO s o.dst v' = s' v' := by intro _; (try dsimp only [sputO, sput, Nat.reduceBEq, cond_true, cond_false, beq_self_eq_true]); first | done | exact rfl) : Wl X ops Q (o :: r) s l := fun ac w hst => by
  obtain rfl : (fun v' => sputO s o.dst v') = s' := funext hs'
  have hw := gd_wanted hst.env hg
  haveI : Seg l [] f := ⟨l, [], by simp, fun o => by rw [hf.out, List.append_nil]⟩
  obtain ⟨v', w', oa', hr, ho', hup⟩ := append_full (ty := o.type) ht.out hei (hv.out w hst.mem) (hu.out w hst.mem) h0 (by simp only [maxLen]; omega) h63.2.2
  unfold wpList
  rw [if_pos hw]
  refine .inl ?_
  unfold Oper.wp
  have : (execOp ac.eval o).run X.P w = .ok (.value v') w' := by
    simp only [execOp, hop, resolve, invoke, builtin, Sem.run_bind, Sem.run_pure, Result.andThen_ok, List.map_toArray, List.map_cons, List.map_nil, hst.env.eval hx, hst.env.eval hy, hr]
  rw [this]
  exact h v' oa' ho' _ _ ⟨hst.env.put hd _, hup.mem hst.mem⟩
theorem wl_appendF0 {x y : Operand} {t tn e bytes b off n m : Nat} {kn kv : IntKind} {p : List Nat} {f : Blks → Blks} {s' : Value → Slots}
    (hg : gd s ops o = some true) (hd : dOk X.N o.dst = true) (hop : o.op = .call { callee := .builtin .append, args := #[x, y], argTypes := #[t, tn] })
    (hx : val s x = some (.slice (some ⟨b, off, none⟩) n n)) (hy : val s y = some (.int kv (m : Int))) [ht : UT X.P t (.slice e)] [htn : UT X.P tn (.int kn)] [hei : EI X.P e 1 bytes #[.int .u8 0]] [hv : VwB X l (.slice (some ⟨b, off, none⟩) n n) n p] [hf : Snoc l f]
    (h : ∀ v' oa', OwnB e v' (n + m) (p ++ List.replicate m 0) oa' → Wl X ops Q r (s' v') (f oa')) (h0 : 0 < m := by first | (with_reducible assumption) | omega | decide)
    (h63 : (n + m) * bytes ≤ 1152921504606846976 ∧ n + m ≤ 1152921504606846976 ∧ (n + m) * bytes ≤ 140737488355328 := by (refine ⟨?_, ?_, ?_⟩ <;> omega))
    (hs' : ∀ v', sputO s o.dst v' = s' v' := by intro _; (try dsimp only [sputO, sput, Nat.reduceBEq, cond_true, cond_false, beq_self_eq_true]); first | done | exact rfl) : Wl X ops Q (o :: r) s l := fun ac w hst => by
  obtain rfl : (fun v' => sputO s o.dst v') = s' := funext hs'
  have hw := gd_wanted hst.env hg
  haveI : Seg l [] f := ⟨l, [], by simp, fun o => by rw [hf.out, List.append_nil]⟩
  obtain ⟨v', w', oa', hr, ho', hup⟩ := append_full0 (ty := o.type) (kv := kv) ht.out htn.out hei (hv.out w hst.mem) h0 (by simp only [maxLen]; omega) h63.2.2
  unfold wpList
  rw [if_pos hw]
  refine .inl ?_
  unfold Oper.wp
  have : (execOp ac.eval o).run X.P w = .ok (.value v') w' := by
    simp only [execOp, hop, resolve, invoke, builtin, Sem.run_bind, Sem.run_pure, Result.andThen_ok, List.map_toArray, List.map_cons, List.map_nil, hst.env.eval hx, hst.env.eval hy, hr]
  rw [this]
  exact h v' oa' ho' _ _ ⟨hst.env.put hd _, hup.mem hst.mem⟩
/-- No nought is appended. -/
theorem rd_append00 {x y : Operand} {t tn e bytes b off n : Nat} {kn kv : IntKind} {z : Array Value} (hop : o.op = .call { callee := .builtin .append, args := #[x, y], argTypes := #[t, tn] })
    (hx : val s x = some (.slice (some ⟨b, off, none⟩) n n)) (hy : val s y = some (.int kv 0)) [ht : UT X.P t (.slice e)] [htn : UT X.P tn (.int kn)] [hei : EI X.P e 1 bytes z] : RdV X s l o (.slice (some ⟨b, off, none⟩) n n) := rd_val fun a w he hm => by
  obtain ⟨i, zv, hi, hsz, hby, hz, hzc, hzs⟩ := hei.out
  have hw0 : IntKind.i64.wrap 0 = 0 := by decide
  have hr : (Builtin.append_ #[t, tn] o.type #[.slice (some ⟨b, off, none⟩) n n, .int kv 0]).run X.P w = .ok (.slice (some ⟨b, off, none⟩) n n) w := by
    simp [Builtin.append_, run_underlying ht.out, run_underlying htn.out, sizeOf, typeInfo, hi, asInt, asIntOf, hw0, storeCells]
  simp only [execOp, hop, resolve, invoke, builtin, Sem.run_bind, Sem.run_pure, Result.andThen_ok, List.map_toArray, List.map_cons, List.map_nil, he.eval hx, he.eval hy, hr]
end
/-! ### The walk -/
set_option maxHeartbeats 4000000 in
theorem of_big (w : World) {u : Value} {n : Nat} {p : List Nat} (h : Cb w u n p) (hn : 64 < n) : Calls Tryd.prog 66 [u].toArray w (Ret (.tuple #[nu 0, .int .i64 2]) w) := by
  haveI i0 := h.old
  have t1 : decide ((n : Int) > 64) = true := decide_eq_true (by omega)
  clear h
  refine fn_ret (N := _) Tryd.func66 rfl Tryd.ntmps66 Tryd.results66 (by simp) ?_
  simp only [initS, Nat.reduceAdd, Nat.zero_add]
  repeat' (first | (refine wlS ?_) | (refine wlB ?_) | (refine wlNL ?_) | (refine wlE ?_) | (refine efSvao ?_; intro v oa ho) | (refine efZCnn ?_; intro n hn) | (refine efBnn ?_; intro n hn) | (refine efB ?_) | (refine efBS ?_) | (refine wl_skip rfl rfl ?_) | ((with_reducible refine wc_seq ?_); intro K hK) | (refine auC ?_) | (refine wc_cond rfl (fun hc => ?_) (fun hc => ?_)) | (refine wc_draw (by kernel_rfl) (by kernel_rfl) (by decide +kernel) ?_; intro w0 hw0 hm0; (try simp only [List.append_eq, List.cons_append, List.nil_append])) | (refine auP ?_) | ((refine auR ?_); clear hK K) | (refine auR ?_) | ((with_reducible refine hK _ _ ?_); clear hK K) | fail)
  first | refine end_ret (ResP.cell rfl ld_whole (ResP.tmp rfl ResP.nil)) ?_ | refine end_normal (ResP.cell rfl ld_whole (ResP.tmp rfl ResP.nil)) ?_
  first | rfl | (show _ = _; rfl) | (simp only [tupV, *]; done)
theorem fb_put (f : Nat → Nat) (hf : ∀ j, f j < 256) (k : Nat) (hk : k < 64) :
    putC (wideC (fb f k)) (k / 8) (.int .u64 (bits .or .u64 (limb (fb f k) (k / 8)) ((f k * 2 ^ (8 * (k % 8)) : Nat) : Int))) = wideC (fb f (k + 1)) := by
  have hk0 : 8 * (k / 8) + k % 8 = k := Nat.div_add_mod k 8
  have hr : k % 8 < 8 := Nat.mod_lt _ (by omega)
  have hup : f k * 2 ^ (8 * (k % 8)) < 2 ^ 64 := by
    have h1 : f k * 2 ^ (8 * (k % 8)) < 2 ^ 8 * 2 ^ (8 * (k % 8)) := Nat.mul_lt_mul_of_pos_right (hf k) (Nat.two_pow_pos _)
    rw [← Nat.pow_add] at h1
    exact Nat.lt_of_lt_of_le h1 (Nat.pow_le_pow_right (by decide) (by omega))
  refine wideC_put _ _ _ _ (by omega) ?_ fun i hi hne => ?_
  · have := fb_lw_same f hf (k / 8) (k % 8) hr
    rw [hk0, Nat.mul_comm (k % 8) 8, Nat.mod_eq_of_lt hup] at this
    rw [limb_lw, limb_lw, int_or _ _ (lw_lt _ _) (by simpa using hup), this]
  · have := fb_lw_other f hf (k / 8) (k % 8) i hr hne
    rw [hk0] at this
    rw [limb_lw, limb_lw, this]
set_option maxHeartbeats 8000000 in
theorem of_ok (w : World) {u : Value} {c : Nat} {p : List Nat} (h : Cb w u c p) (hc : c ≤ 64) : Calls Tryd.prog 66 [u].toArray w (Ret (.tuple #[nu (slow (fbl p)), .int .i64 0]) w) := by
  haveI i0 := h.old
  have hl := h.ok.len
  have RC := reduceS (fbl p) (fbl_lt h.ok hc)
  have hby := gf_lt h.ok
  have t1 : decide ((c : Int) > 64) = false := decide_eq_false (by omega)
  have hE : fbl p = fb (gf p) c := by unfold fbl; rw [hl]
  rw [hE] at RC ⊢
  have f0 : fb (gf p) 0 = 0 := rfl
  have hput := fun k hk => fb_put (gf p) hby k hk
  have hgb : ∀ k, k < c → (bl p)[k]? = some (.int .u8 ((gf p k : Nat) : Int)) := fun k hk => by simp [bl, gf, List.getD, show k < p.length by omega]
  generalize slow (fb (gf p) c) = R at *
  generalize gf p = f at *
  clear h hE hl
  refine fn_ret (N := _) Tryd.func66 rfl Tryd.ntmps66 Tryd.results66 (by simp) ?_
  simp only [initS, Nat.reduceAdd, Nat.zero_add]
  repeat' (first | (refine wlS ?_) | (refine wlB ?_) | (refine wlNL ?_) | (refine wlE ?_) | (refine efSvao ?_; intro v oa ho) | (refine efZCnn ?_; intro n hn) | (refine efBnn ?_; intro n hn) | (refine efB ?_) | (refine efBS ?_) | (refine wl_skip rfl rfl ?_) | ((with_reducible refine wc_seq ?_); intro K hK) | (refine auC ?_) | (refine wc_cond rfl (fun hc => ?_) (fun hc => ?_)) | (refine wc_draw (by kernel_rfl) (by kernel_rfl) (by decide +kernel) ?_; intro w0 hw0 hm0; (try simp only [List.append_eq, List.cons_append, List.nil_append])) | (refine auP ?_) | ((refine auR ?_); clear hK K) | (refine auR ?_) | ((with_reducible refine hK _ _ ?_); clear hK K) | fail)
  rename_i n2 g2
  obtain ⟨n4, rfl⟩ : ∃ n4, n4 = n := ⟨_, rfl⟩
  refine wc_loop (σ := Nat) (fun k => [(2, ptr n2), (4, ptr n4), (11, u), (12, .int .i64 (c : Int)), (13, .int .i64 (k : Int))])
    (fun k => [(n4, (wideC (fb f k), 101)), (n2, (numC 0, 29))])
    (fun k => k ≤ c) (fun k => c - k) 0 (Nat.zero_le _) (Fits.of ⟨rfl, rfl, rfl, rfl, rfl, trivial⟩ (by rw [f0]; exact SubL.refl _) rfl) ?_
  intro k hk
  by_cases hlt : k < c
  · have t2 : decide ((k : Int) < (c : Int)) = true := decide_eq_true (by omega)
    have t3 : IntKind.i64.wrap ((k : Int) + 1) = ((k + 1 : Nat) : Int) := by rw [wrap_i64 _ (by omega) (by omega)]; omega
    have q1 : IntKind.i64.wrap ((k : Int).tdiv 8) = ((k / 8 : Nat) : Int) := by rw [Int.tdiv_eq_ediv_of_nonneg (by omega), wrap_i64 _ (by omega) (by omega)]; omega
    have q2 : (k : Int).tmod 8 = ((k % 8 : Nat) : Int) := by rw [Int.tmod_eq_emod_of_nonneg (by omega)]; omega
    have q3 : IntKind.i64.wrap (((k % 8 : Nat) : Int) * 8) = ((8 * (k % 8) : Nat) : Int) := by rw [wrap_i64 _ (by omega) (by omega)]; omega
    have q4 : IntKind.u64.wrap ((8 * (k % 8) : Nat) : Int) = ((8 * (k % 8) : Nat) : Int) := by rw [wrap_u64 _ (by omega) (by omega)]
    have hb8 := hby k
    have q5 : IntKind.u64.wrap ((f k : Nat) : Int) = ((f k : Nat) : Int) := by rw [wrap_u64 _ (by omega) (by omega)]
    have hup : f k * 2 ^ (8 * (k % 8)) < 2 ^ 64 := by
      have h1 : f k * 2 ^ (8 * (k % 8)) < 2 ^ 8 * 2 ^ (8 * (k % 8)) := Nat.mul_lt_mul_of_pos_right hb8 (Nat.two_pow_pos _)
      rw [← Nat.pow_add] at h1
      exact Nat.lt_of_lt_of_le h1 (Nat.pow_le_pow_right (by decide) (by omega))
    have q6 : IntKind.u64.wrap (((f k : Nat) : Int) * 2 ^ (min ((8 * (k % 8) : Nat) : Int).toNat (IntKind.bits .u64))) = ((f k * 2 ^ (8 * (k % 8)) : Nat) : Int) := by
      rw [show min ((8 * (k % 8) : Nat) : Int).toNat (IntKind.bits .u64) = 8 * (k % 8) by show min _ 64 = _; omega, int_shl, Nat.mod_eq_of_lt hup]
    have j1 : (k : Int) < (c : Int) := by omega
    have j2 : ((k / 8 : Nat) : Int) < ((8 : Nat) : Int) := by omega
    have hp : 0 + ((k / 8 : Nat) : Int).toNat * 1 = k / 8 := by omega
    have gb := hgb k hlt
    have gw := wideC_get (fb f k) (k / 8) (by omega)
    have pw := hput k (by omega)
    clear hgb hput RC f0 hby hup
    repeat' (first | (refine wlS ?_) | (refine wlB ?_) | (refine wlE ?_) | (refine efSvao ?_; intro v oa ho) | (refine efBnn ?_; intro n hn) | (refine efB ?_) | (refine efBS ?_) | (refine wl_skip rfl rfl ?_) | ((with_reducible refine wc_seq ?_); intro K hK) | (refine auC ?_) | (refine wc_cond rfl (fun hc => ?_) (fun hc => ?_)) | (refine wc_draw (by kernel_rfl) (by kernel_rfl) (by decide +kernel) ?_; intro w0 hw0 hm0; (try simp only [List.append_eq, List.cons_append, List.nil_append])) | (refine auP ?_) | ((refine auR ?_); clear hK K) | (refine auR ?_) | ((with_reducible refine hK _ _ ?_); clear hK K) | fail)
    exact ⟨k + 1, hlt, by omega, Fits.of ⟨rfl, rfl, rfl, rfl, rfl, trivial⟩ (SubL.refl _) rfl⟩
  · obtain rfl : k = c := by omega
    have t2 : decide ((k : Int) < (k : Int)) = false := decide_eq_false (by omega)
    clear hgb hput hby f0
    repeat' (first | (refine wlS ?_) | (refine wlB ?_) | ((with_reducible refine sel_call ?_); refine wl_rd rfl rfl (rd_call rfl rfl rfl (fun w hm => by with_reducible exact RC w)) ?_) | (refine wlE ?_) | (refine efSvao ?_; intro v oa ho) | (refine efBnn ?_; intro n hn) | (refine efB ?_) | (refine efBS ?_) | (refine wl_skip rfl rfl ?_) | ((with_reducible refine wc_seq ?_); intro K hK) | (refine auC ?_) | (refine wc_cond rfl (fun hc => ?_) (fun hc => ?_)) | (refine wc_draw (by kernel_rfl) (by kernel_rfl) (by decide +kernel) ?_; intro w0 hw0 hm0; (try simp only [List.append_eq, List.cons_append, List.nil_append])) | (refine auP ?_) | ((refine auR ?_); clear hK K) | (refine auR ?_) | ((with_reducible refine hK _ _ ?_); clear hK K) | fail)
    first | refine end_ret (ResP.cell rfl ld_whole (ResP.tmp rfl ResP.nil)) ?_ | refine end_normal (ResP.cell rfl ld_whole (ResP.tmp rfl ResP.nil)) ?_
    first | rfl | (show _ = _; rfl) | (simp only [tupV, *]; done)
end Go.Proofs.YtkbgkobbadjpnaaDoor
namespace Go.Proofs.YtkbgkobbadjpnaaDoor
open Go.RowKit
attribute [local irreducible] rwA bys iw
set_option linter.unusedVariables false
set_option linter.unusedSimpArgs false
set_option maxRecDepth 100000
def dgH (c i : Nat) (p : List Nat) : List Nat := ((newH.write [c, i]).write p).sum
/-- Bytes' number, with a label. -/
def dgN (c : Nat) (p : List Nat) : Nat := slow (fbl (dgH c 0 p ++ dgH c 1 p))
theorem dgN_L (c : Nat) (p : List Nat) : dgN c p < SLn := slow_L _
theorem dgN_lt (c : Nat) (p : List Nat) : dgN c p < T256 := slow_lt _
theorem two_by {c i : Nat} (hc : c < 256) (hi : i < 256) : ByL [c, i] := ⟨fun x hx => by
  simp only [List.mem_cons, List.not_mem_nil, or_false] at hx
  rcases hx with rfl | rfl <;> assumption⟩
set_option maxHeartbeats 4000000 in
theorem dgn_c (w : World) (hT : Tab w) (w' : World) (hb : Below w.heap.size w w') (c : Nat) (hc : c < 256) {v : Value} {n : Nat} {p : List Nat} (hq : Cb w' v n p) :
    Calls Tryd.prog 40 [.int .u8 (c : Int), v].toArray w' (Ret (nu (dgN c p)) w') := by
  have NW := new_c
  have WG := write_g w' (hT.below hb)
  have SG := sum_g w' (hT.below hb)
  have i1 := hq.old
  haveI : ByL p := ⟨hq.ok.by'⟩
  haveI : ByL [c, 0] := two_by hc (by decide)
  haveI : ByL [c, 1] := two_by hc (by decide)
  haveI b0 : BLc 32 (dgH c 0 p) := ⟨⟨sum_len (st := (newH.write [c, 0]).write p) HSo.out, ByL.out (p := ((newH.write [c, 0]).write p).sum)⟩, by decide⟩
  haveI b1 : BLc 32 (dgH c 1 p) := ⟨⟨sum_len (st := (newH.write [c, 1]).write p) HSo.out, ByL.out (p := ((newH.write [c, 1]).write p).sum)⟩, by decide⟩
  have OF : ∀ {u : Value} w'', Cb w'' u (32 + 32) (dgH c 0 p ++ dgH c 1 p) → Calls Tryd.prog 66 [u].toArray w'' (Ret (.tuple #[nu (dgN c p), .int .i64 0]) w'') := fun w'' h => of_ok w'' h (by decide)
  have e0 : dgH c 0 p = ((newH.write [c, 0]).write p).sum := rfl
  have e1 : dgH c 1 p = ((newH.write [c, 1]).write p).sum := rfl
  rw [e0, e1] at OF
  rw [e0] at b0
  rw [e1] at b1
  clear e0 e1 hT hb hq
  generalize dgN c p = R at *
  refine fn_ret (N := _) Tryd.func40 rfl Tryd.ntmps40 Tryd.results40 (by simp) ?_
  simp only [initS, Nat.reduceAdd, Nat.zero_add]
  repeat' (first | (refine wlS ?_) | (refine wlB ?_) | ((with_reducible refine sel_call ?_); refine wl_rd rfl rfl (rd_call rfl rfl rfl (fun w hm => by with_reducible first | exact NW w | exact WG w (hm.below rfl) (VwB.out w hm) | exact SG w (hm.below rfl) | exact OF w (VwB.out w hm))) ?_) | (refine wlE ?_) | (refine efSvvp ?_; intro v hv hp) | (refine efSvao ?_; intro v oa ho) | (refine efAFvao ?_; intro v oa ho) | (refine efZCnn ?_; intro n hn) | (refine efBnn ?_; intro n hn) | (refine efB ?_) | (refine efBS ?_) | (refine wl_skip rfl rfl ?_) | ((with_reducible refine wc_seq ?_); intro K hK) | (refine auC ?_) | (refine wc_cond rfl (fun hc => ?_) (fun hc => ?_)) | ((with_reducible refine wc_drawT (by kernel_rfl) ?_); (try simp only [List.append_eq, List.cons_append, List.nil_append, List.length_cons, List.length_nil, Nat.reduceAdd])) | ((with_reducible refine sel_wh ?_); first | (refine wh_take (lq := []) rfl rfl rfl rfl (by first | exact rvS | exact rvB | exact rvE) (Or.inl rfl) ?_) | (refine wh_take rfl rfl rfl rfl (by first | exact rvS | exact rvB | exact rvE) (Or.inr ⟨rfl, by decide +kernel⟩) ?_)) | (refine whS ?_; intro v hv hp) | ((with_reducible refine sel_wh ?_); first | (refine wh_pass rfl rfl rfl rfl ?_) | (refine wh_done rfl ?_) | (refine wh_all rfl ?_)) | ((with_reducible refine sel_rest ?_); first | exact rest_nil rfl | refine rest_cons rfl rfl ?_ ?_) | ((with_reducible refine sel_nx ?_); first | refine next_of ?_ | refine next_late (by decide +kernel) ?_) | (refine auP ?_) | ((refine auR ?_); clear hK K) | (refine auR ?_) | ((with_reducible refine hK _ _ ?_); clear hK K) | fail)
  all_goals (first | refine end_ret (ResP.cell rfl ld_whole ResP.nil) ?_ | refine end_normal (ResP.cell rfl ld_whole ResP.nil) ?_)
  all_goals (first | rfl | (show _ = _; rfl) | (simp only [tupV, *]; done))
end Go.Proofs.YtkbgkobbadjpnaaDoor
