/- Bytes: copied into a slice of the walk's own, made with room, cut with an end of room. -/
import Derived.Test.YtglbnbdeoenilaaMake
import Derived.Test.YtglbnbdeoenilaaStage
namespace Go.Proofs.Ytglbnbdeoenilaa
open Go.RowKit
set_option linter.unusedVariables false
set_option linter.unusedSimpArgs false
theorem take_put {α : Type} {A B : List α} {j k n : Nat} (hB : B.length = k) (h : j + k ≤ n) (hn : n ≤ A.length) : (A.take j ++ B ++ A.drop (j + k)).take n = (A.take n).take j ++ (B ++ (A.take n).drop (j + k)) := by
  have h1 : (A.take j).length = j := by rw [List.length_take]; omega
  rw [List.append_assoc, List.take_append, h1, List.take_of_length_le (by omega), List.take_append, hB, List.take_of_length_le (l := B) (by omega), List.take_take, Nat.min_eq_left (by omega)]
  rw [List.drop_take, show n - j - k = n - (j + k) by omega]
section
variable {X : Cx} {s : Slots} {l : Blks} {o : Oper} {v : Value} {Q : Post} {ops : Array Oper} {r : List Oper}
theorem copy_own {P : Program} {w : World} {t t' ty e te n n' m j k : Nat} {u v v' : Value} {p q q' : List Nat} {oa : Blks} (ht : P.underlying t = some (.slice e)) (hs : (P.info? e).map (·.size) = some 1)
    (hown : OwnB te v n p oa) (hp : Part v v' j n') (hl' : Ln v' n') (hd : Hd oa w) (hu : Cb w u m q) (hk : Nat.min m n' = k) (hfit : j + k ≤ n) (hq : p.take j ++ (q.take k ++ p.drop (j + k)) = q') :
    ∃ w' oa', (Builtin.copy_ #[t, t'] ty #[v', u]).run P w = .ok (.int .i64 (k : Int)) w' ∧ OwnB te v n q' oa' ∧ Upd w oa w' oa' := by
  obtain ⟨hcs, hok⟩ := hu
  obtain ⟨pu, cu, rfl, h1, h2, h3⟩ := hcs.ln.out
  obtain ⟨pv, cv, rfl, i1, i2, i3⟩ := hl'.out
  have hkm : k ≤ m := by rw [← hk]; exact Nat.min_le_left _ _
  have hkn : k ≤ n' := by rw [← hk]; exact Nat.min_le_right _ _
  have hpl := hown.ok.len
  have hnd : (keys oa).Nodup := by rcases hown.own.out with ⟨_, _, rfl⟩ | ⟨g, cap, cur, _, _, _, _, _, rfl⟩ <;> simp [keys]
  have hB : BL n q' := by
    subst hq
    refine ⟨by rw [List.length_append, List.length_append, List.length_take, List.length_take, List.length_drop, hok.len, hpl]; omega, fun x hx => ?_⟩
    rcases List.mem_append.1 hx with hx | hx
    · exact hown.ok.by' x (List.mem_of_mem_take hx)
    · rcases List.mem_append.1 hx with hx | hx
      · exact hok.by' x (List.mem_of_mem_take hx)
      · exact hown.ok.by' x (List.mem_of_mem_drop hx)
  by_cases h0 : k = 0
  · subst h0
    have e1 : q' = p := by rw [← hq]; simp
    subst e1
    have hr := run_copy_none (P := P) w t t' ty e pv pu n' cv m cu ht hs hk
    exact ⟨w, oa, hr, hown, rfl, rfl, rfl, Nat.le_refl _, fun _ _ _ => rfl, hnd, hd, fun n hn => .inl hn⟩
  · rcases hown.own.out with ⟨rfl, rfl, rfl⟩ | ⟨g, cap, cur, rfl, hnc, hcm, hcs', htake, rfl⟩
    · omega
    · obtain ⟨cap', hv'⟩ := hp.out g 0 n cap rfl (by omega)
      injection hv' with hv1 hv2 hv3
      subst hv1; subst hv3
      rw [Nat.zero_add]
      have hg : w.heap[g]? = some (.cells cur te (0, 0)) := hd (g, (cur, te)) (by simp)
      obtain ⟨b', off', rfl⟩ := h3 (by omega)
      have hqk : (q.take k).length = k := by rw [List.length_take, hok.len]; omega
      have htl : (bl (q.take k)).length = k := by rw [bl_len, hqk]
      have hr := run_copy_row (P := P) w t t' ty e g j n' cv ⟨b', off', none⟩ m cu cur te (bl (q.take k)) ht hs hg (by rw [htl, hk]) (fun i y hj => by
        have hjl : i < k := by rw [← htl]; exact (List.getElem?_eq_some_iff.1 hj).1
        have hj' : (bl q)[i]? = some y := by
          rw [← bl_take, List.getElem?_take_of_lt hjl] at hj
          exact hj
        obtain ⟨b2, off2, cap2, hv, hc⟩ := hcs.cell i y hj'
        injection hv with hv
        injection hv with hv
        injection hv with hb' ho'
        subst hb'; subst ho'
        rw [Addr.add_mid]; exact hc) (by rw [htl]; omega) (bl_one _)
      rw [htl] at hr
      refine ⟨_, [(g, (_, te))], hr, ⟨⟨by rw [bl_len, hB.len, Nat.mul_one], .inr ⟨g, cap, _, rfl, hnc, hcm, ?_, ?_, rfl⟩⟩, hB⟩, rfl, rfl, rfl, by simp, fun k' hk' hne => setRow_other w g k' _ (fun e => hne (by simp [keys, e])), by simp [keys], hd_one (setRow_heap w g cur _ te _ hg), fun n hn => .inl (by simpa [keys] using hn)⟩
      · simp only [List.size_toArray, List.length_append, List.length_take, List.length_drop, Array.length_toList, htl]
        omega
      · rw [Nat.mul_one] at htake ⊢
        rw [List.toList_toArray, take_put htl hfit (by rw [Array.length_toList]; omega), htake, bl_take, bl_drop, ← bl_app, ← bl_app, hq]
theorem part_self {v : Value} {n : Nat} (h : Ln v n) : Part v v 0 n := ⟨fun b off n' cap hv _ => by
  obtain ⟨p, c, h1, _⟩ := h.out
  rw [hv] at h1
  injection h1 with h1 h2 h3
  subst h2
  exact ⟨cap, hv⟩⟩
/-- A part, and of what. -/
class PartOf (v' : Value) (v : outParam Value) (j n : outParam Nat) : Prop where
  out : Part v v' j n
theorem PartOf.of {v v' : Value} {j n : Nat} (h : Part v v' j n) : PartOf v' v j n := ⟨h⟩
instance (priority := 100) {v : Value} {n : Nat} [h : Ln v n] : PartOf v v 0 n := ⟨part_self h⟩
theorem wl_copyO {x y : Operand} {t t' e n n' m j : Nat} {u v v' : Value} {p q q' : List Nat} {oa : Blks} {f : Blks → Blks} {s' : Slots} (hg : gd s ops o = some true) (hd : dOk X.N o.dst = true) (hop : o.op = .call { callee := .builtin .copy, args := #[x, y], argTypes := #[t, t'] })
    (hx : val s x = some v') (hy : val s y = some u) [hp : PartOf v' v j n'] [hl' : Ln v' n'] [ht : UT X.P t (.slice e)] [hs : SZ X.P e 1] [hown : OwnB e v n p oa] [hseg : Seg l oa f] [hu : VwB X l u m q] {k : Nat}
    (h : ∀ oa', OwnB e v n q' oa' → Wl X ops Q r s' (f oa')) (hk : Nat.min m n' = k := by first | (with_reducible assumption) | rfl)
    (hfit : j + k ≤ n := by first | (with_reducible assumption) | omega) (hq : p.take j ++ (q.take k ++ p.drop (j + k)) = q' := by first | (with_reducible assumption) | rfl)
    (hs' : sputO s o.dst (.int .i64 (k : Int)) = s' := by (try dsimp only [sputO, sput, Nat.reduceBEq, cond_true, cond_false, beq_self_eq_true]); first | done | exact rfl) : Wl X ops Q (o :: r) s l := fun a w hst => by
  subst hs'
  have hw := gd_wanted hst.env hg
  have hdd : Hd oa w := by
    obtain ⟨pre, post, rfl, _⟩ := hseg.out
    intro p hp
    exact hst.mem.cls.now p.1 p.2.1 p.2.2 (mu_mem_of (by simp [hp]) hst.mem.nd)
  obtain ⟨w', oa', hr, ho', hup⟩ := copy_own (t' := t') (ty := o.type) ht.out hs.out hown hp.out hl' hdd (hu.out w hst.mem) hk hfit hq
  unfold wpList
  rw [if_pos hw]
  refine .inl ?_
  unfold Oper.wp
  have : (execOp a.eval o).run X.P w = .ok (.value (.int .i64 (k : Int))) w' := by
    simp only [execOp, hop, resolve, invoke, builtin, Sem.run_bind, Sem.run_pure, Result.andThen_ok, List.map_toArray, List.map_cons, List.map_nil, hst.env.eval hx, hst.env.eval hy, hr]
  rw [this]
  exact h oa' ho' _ _ ⟨hst.env.put hd _, hup.mem hst.mem⟩
/-- Noughts with room behind them. -/
theorem wl_makeC {t e bytes n m : Nat} {x y : Operand} {kx ky : IntKind} {im : Int} {s' : Value → Slots} {f : Blks → Blks} (hg : gd s ops o = some true) (hd : dOk X.N o.dst = true) (hop : o.op = .makeSlice t x y) (hx : val s x = some (.int kx im)) (him : im = (m : Int)) (hy : val s y = some (.int ky (n : Int)))
    [ht : UT X.P t (.slice e)] [hei : EI X.P e 1 bytes #[.int .u8 0]] [hf : Snoc l f] (h : ∀ v' oa', OwnB e v' m (List.replicate m 0) oa' → Wl X ops Q r (s' v') (f oa'))
    (hmn : m ≤ n := by first | (with_reducible assumption) | omega) (hb : n * bytes ≤ 140737488355328 ∧ n ≤ 1152921504606846976 := by (refine ⟨?_, ?_⟩ <;> omega))
    (hs' : ∀ v', sputO s o.dst v' = s' v' := by intro _; (try dsimp only [sputO, sput, Nat.reduceBEq, cond_true, cond_false, beq_self_eq_true]); first | done | exact rfl) : Wl X ops Q (o :: r) s l := fun ac w hst => by
  obtain rfl : (fun v' => sputO s o.dst v') = s' := funext hs'
  subst him
  have hw := gd_wanted hst.env hg
  obtain ⟨i, zv, hi, hsz, hby, hz, hzc, hzs⟩ := hei.out
  have hr := run_make (P := X.P) w t e i zv ht.out hi hz kx ky (m : Int) (n : Int) (by omega) (by omega) (by rw [hby, ← Int.natCast_mul, Nat.mul_comm]; omega) (by omega)
  rw [hsz, Nat.mul_one, Int.toNat_natCast, Int.toNat_natCast, hzc] at hr
  unfold wpList
  rw [if_pos hw]
  refine .inl ?_
  unfold Oper.wp
  have : (execOp ac.eval o).run X.P w = .ok (.value (.slice (some ⟨w.heap.size, 0, none⟩) m n)) (w.alloc (.cells (madeCells #[.int .u8 0] n) e)) := by
    simp only [execOp, hop, hst.env.eval hx, hst.env.eval hy, Sem.run_bind, hr, Result.andThen_ok, Sem.run_pure]
  rw [this]
  haveI : Seg l [] f := ⟨l, [], by simp, fun o => by rw [hf.out, List.append_nil]⟩
  refine h _ [(w.heap.size, (madeCells #[.int .u8 0] n, e))] ⟨⟨by rw [bl_len, List.length_replicate, Nat.mul_one], .inr ⟨w.heap.size, n, madeCells #[.int .u8 0] n, rfl, hmn, ?_, by rw [size_madeCells, Nat.mul_one], ?_, rfl⟩⟩, BL.rep m 0 (by decide)⟩ _ _ ⟨hst.env.put hd _, (upd_new (w := w) (w1 := w) rfl rfl rfl rfl [] _ e).mem hst.mem⟩
  · simp only [maxLen]; omega
  · rw [made_one, bl_rep, Nat.mul_one, List.take_replicate, Nat.min_eq_left hmn]; rfl
/-- The beginning, with an end of room. -/
theorem wl_cut3 {t e n hi mx : Nat} {x yh ym : Operand} {kh km : IntKind} {ih jm : Int} {Φ : World → Prop} {p p' : List Nat} {s' : Value → Slots} (hg : gd s ops o = some true) (hd : dOk X.N o.dst = true) (ho : o.op = .slice t x none (some yh) (some ym)) (hx : val s x = some v)
    (hyh : val s yh = some (.int kh ih)) (hym : val s ym = some (.int km jm)) (hih : ih = (hi : Int)) (hjm : jm = (mx : Int)) [ht : UT X.P t (.slice e)] [hs : SZ X.P e 1] [hv : CsB Φ v n p]
    (h : ∀ v', CsB Φ v' hi p' → Wl X ops Q r (s' v') l)
    (h1 : hi ≤ mx := by first | (with_reducible assumption) | omega) (h2 : mx ≤ n := by first | (with_reducible assumption) | omega) (hxs : p.take hi = p' := by first | (with_reducible assumption) | rfl)
    (hs' : ∀ v', sputO s o.dst v' = s' v' := by intro _; (try dsimp only [sputO, sput, Nat.reduceBEq, cond_true, cond_false, beq_self_eq_true]); first | done | exact rfl) : Wl X ops Q (o :: r) s l := by
  obtain rfl : (fun v' => sputO s o.dst v') = s' := funext hs'
  subst hxs; subst hih; subst hjm
  obtain ⟨pa, cap, rfl, h3, h4, h5⟩ := hv.cs.ln.out
  have hsz : ∀ w, (sizeOf e).run X.P w = .ok 1 w := hs.run
  have hok := hv.ok
  refine wl_rd hg hd (RdV.rd (v := .slice (if mx = 0 then pa else pa.map (·.add (0 * 1))) hi mx) fun ac w he hm => ?_) (h _ ⟨⟨?_, fun w' hw' => ?_⟩, ⟨by rw [List.length_take, hok.len]; omega, fun x hx => hok.by' x (List.mem_of_mem_take hx)⟩⟩) rfl
  · have hb : (Instr.sliceBounds true n cap none (some (.int kh (hi : Int))) (some (.int km (mx : Int)))).run X.P w = .ok (0, hi, mx) w := by
      simp [Instr.sliceBounds, run_sliceBound, (by omega : mx ≤ cap), h1]
    have e0 : Instr.sliceAt t (.slice pa n cap) none (some (.int kh (hi : Int))) (some (.int km (mx : Int))) = (do
        match ← underlying t with
        | .array n elem =>
          let a' ← Instr.sureAddr (.slice pa n cap)
          let (l, h, m) ← Instr.sliceBounds false n n none (some (.int kh (hi : Int))) (some (.int km (mx : Int)))
          let size ← sizeOf elem
          pure (.slice (some (if m = l then a' else a'.add (l * size))) (h - l) (m - l))
        | _ => Instr.slice t (.slice pa n cap) none (some (.int kh (hi : Int))) (some (.int km (mx : Int)))) := rfl
    simp only [execOp, ho, he.eval hx, Option.map_none, Option.map_some, he.eval hyh, he.eval hym]
    rw [Sem.run_bind, e0, Sem.run_bind, run_underlying ht.out]
    simp only [Result.andThen_ok, Instr.slice, Sem.run_bind, run_underlying ht.out, hb, hsz, Sem.run_pure, Nat.sub_zero]
  · refine ⟨_, _, rfl, h1, by omega, fun hpos => ?_⟩
    obtain ⟨b, off, rfl⟩ := h5 (by omega)
    rw [if_neg (by omega)]
    exact ⟨b, off + 0 * 1, by rw [Option.map_some, Addr.add_mid]⟩
  · refine ⟨⟨_, _, rfl, h1, by omega, fun hpos => ?_⟩, fun j u hj => ?_⟩
    · obtain ⟨b, off, rfl⟩ := h5 (by omega)
      rw [if_neg (by omega)]
      exact ⟨b, off + 0 * 1, by rw [Option.map_some, Addr.add_mid]⟩
    · have hlt : j < hi := by
        have := (List.getElem?_eq_some_iff.1 hj).1
        rw [bl_len, List.length_take] at this; omega
      rw [← bl_take, List.getElem?_take_of_lt hlt] at hj
      obtain ⟨b, off, c', hv', hc⟩ := (hv.cs.out w' hw').cell _ _ hj
      injection hv' with hv1 hv2 hv3
      subst hv1
      refine ⟨b, off + 0 * 1, mx, ?_, by rw [Nat.zero_mul, Nat.add_zero]; exact hc⟩
      rw [if_neg (by omega), Option.map_some, Addr.add_mid]
end
end Go.Proofs.Ytglbnbdeoenilaa
