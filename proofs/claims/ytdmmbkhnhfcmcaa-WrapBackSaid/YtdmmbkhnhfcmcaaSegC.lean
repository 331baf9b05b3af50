/- Parts of segments: rows read, bytes copied into them. -/
import Derived.Test.YtdmmbkhnhfcmcaaMake
import Derived.Test.YtdmmbkhnhfcmcaaStage
import Derived.Test.YtdmmbkhnhfcmcaaLwH
namespace Go.Proofs.Ytdmmbkhnhfcmcaa
open Go.RowKit
set_option linter.unusedVariables false
set_option linter.unusedSimpArgs false
section
variable {X : Cx} {s : Slots} {l : Blks} {o : Oper} {v : Value} {Q : Post} {ops : Array Oper} {r : List Oper}
/-- Some cells of a segment, as a row. -/
theorem ld_sgR {t b off k e p m j : Nat} {g : Sg} {A : Array Value} {cs : List Value} [hu : KD X.P t true] [hs : SZ X.P t k] [hok : SgOk g] (hh : Has X l b (rwA g, e) := by first | (with_reducible assumption) | (refine Has.inn ?_; repeat (first | exact Inn.here | apply Inn.there | apply Inn.skipA))) (ha : atL g p m = some A := by rfl) (ho : p + j = off := by first | (with_reducible assumption) | rfl | omega)
    (hv : (A.toList.drop j).take k = cs := by first | (with_reducible assumption)) (hj : j + k ≤ m := by first | (with_reducible assumption) | omega) : Ld X l t b off (.agg cs.toArray) := by
  obtain ⟨h1, h2, h3⟩ := atL_spec hok ha
  subst ho
  refine ld_row (c := rwA g) hh ?_ ?_
  · rw [← hv, ← h1, rwA]
    simp only [List.drop_take, List.drop_drop, List.take_take]
    rw [Nat.min_eq_left (by omega)]
  · rw [← hv, List.length_take, List.length_drop, Array.length_toList, h2]
    omega
/-- Bytes are copied into a segment of bytes. -/
theorem wl_copyG {x y : Operand} {t t' e te n cap b off m pp mm j : Nat} {u : Value} {p q q' : List Nat} {g g' : Sg} {l' : Blks} {s' : Slots} (hg : gd s ops o = some true) (hd : dOk X.N o.dst = true) (hop : o.op = .call { callee := .builtin .copy, args := #[x, y], argTypes := #[t, t'] })
    (hx : val s x = some (.slice (some ⟨b, off, none⟩) n cap)) (hy : val s y = some u) [ht : UT X.P t (.slice e)] [hs : SZ X.P e 1] [hok : SgOk g] [hu : VwB X l u m p] {k : Nat}
    (h : Wl X ops Q r s' l') (hat : At l b (rwA g, te) (rwA g', te) l' := by repeat (first | exact At.here | apply At.there | apply At.skipA)) (ha : atL g pp mm = some (bys q) := by rfl) (hp : putG g pp mm (bys q') = some g' := by rfl) (ho : pp + j = off := by first | (with_reducible assumption) | rfl | omega)
    (hk : Nat.min m n = k := by first | (with_reducible assumption) | rfl) (hfit : j + k ≤ q.length := by first | (with_reducible assumption) | omega) (hq : q.take j ++ (p.take k ++ q.drop (j + k)) = q' := by first | (with_reducible assumption) | rfl)
    (hs' : sputO s o.dst (.int .i64 (k : Int)) = s' := by (try dsimp only [sputO, sput, Nat.reduceBEq, cond_true, cond_false, beq_self_eq_true]); first | done | exact rfl) : Wl X ops Q (o :: r) s l := fun a w hst => by
  subst hs'; subst ho
  have hw := gd_wanted hst.env hg
  obtain ⟨hcs, hokb⟩ := hu.out w hst.mem
  obtain ⟨pu, cu, rfl, h1, h2, h3⟩ := hcs.ln.out
  have hgb := hst.mem.cls.now b (rwA g) te (hat.now hst.mem.nd)
  have hkm : k ≤ m := by rw [← hk]; exact Nat.min_le_left _ _
  have hpk : (p.take k).length = k := by rw [List.length_take, hokb.len]; omega
  have htl : (bl (p.take k)).length = k := by rw [bl_len, hpk]
  obtain ⟨f1, f2, f3⟩ := atL_spec hok ha
  have hql : q.length = mm := by rw [← f2]; simp [bys, bl]
  have hjk : j + k ≤ mm := by rw [← hql]; exact hfit
  have hq'n : q'.length = mm := by
    rw [← hq, List.length_append, List.length_append, List.length_take, List.length_drop, hpk, hql]; omega
  have hq'l : (bys q').size = mm := by
    simp only [bys, List.size_toArray, bl_len, hq'n]
  obtain ⟨g1, g2, g3, g4⟩ := putG_spec hok hq'l (by simp [bys, bl, Value.oneCell']) hp
  have hrow : ((rwA g).toList.take (pp + j) ++ bl (p.take k) ++ (rwA g).toList.drop (pp + j + (bl (p.take k)).length)).toArray = rwA g' := by
    rw [htl]
    unfold rwA
    rw [← g1]
    unfold putR
    have hbq : (bys q').toList = bl q' := by simp [bys]
    have hbq0 : (bys q).toList = bl q := by simp [bys]
    have hq2 : (bys q').toList.length = mm := by rw [Array.length_toList, hq'l]
    rw [hq2, hbq, ← hq, bl_app, bl_app]
    rw [hbq0] at f1
    have hpl : pp ≤ (rwL g).length := by omega
    have e0 : (rwL g).take (pp + j) = (rwL g).take pp ++ bl (q.take j) := by
      rw [List.take_add, ← bl_take, ← f1, List.take_take, Nat.min_eq_left (by omega)]
    have e1 : (rwL g).drop (pp + j + k) = bl (q.drop (j + k)) ++ (rwL g).drop (pp + mm) := by
      rw [← bl_drop, ← f1, List.drop_take, List.drop_drop]
      have := List.take_append_drop (mm - (j + k)) ((rwL g).drop (pp + (j + k)))
      rw [List.drop_drop, show pp + (j + k) + (mm - (j + k)) = pp + mm by omega] at this
      rw [show pp + j + k = pp + (j + k) by omega]
      exact this.symm
    rw [List.toList_toArray, e0, e1]
    simp only [List.append_assoc]
  have hrun : ∃ w', (Builtin.copy_ #[t, t'] o.type #[.slice (some ⟨b, pp + j, none⟩) n cap, .slice pu m cu]).run X.P w = .ok (.int .i64 (k : Int)) w' ∧ Mem X l' w' := by
    by_cases h0 : k = 0
    · subst h0
      refine ⟨w, run_copy_none (P := X.P) w t t' o.type e _ pu n cap m cu ht.out hs.out hk, ?_⟩
      have e1 : rwA g' = rwA g := by
        rw [← hrow, htl]
        have : bl (p.take 0) = [] := rfl
        rw [this]
        simp
      rw [e1] at hat
      have e2 : l' = l := hat.same
      rw [e2]; exact hst.mem
    · obtain ⟨b', off', rfl⟩ := h3 (by omega)
      refine ⟨_, run_copy_row (P := X.P) w t t' o.type e b (pp + j) n cap ⟨b', off', none⟩ m cu (rwA g) te (bl (p.take k)) ht.out hs.out hgb (by rw [htl, hk]) (fun i y hj => ?_) (by rw [htl, rw_size hok]; rw [rwL_len hok] at f3; omega) (bl_one _) |>.trans (by rw [htl]; rfl), ?_⟩
      · have hjl : i < k := by rw [← htl]; exact (List.getElem?_eq_some_iff.1 hj).1
        have hj' : (bl p)[i]? = some y := by
          rw [← bl_take, List.getElem?_take_of_lt hjl] at hj
          exact hj
        obtain ⟨b2, off2, cap2, hv, hc⟩ := hcs.cell i y hj'
        injection hv with hv
        injection hv with hv
        injection hv with hb' ho'
        subst hb'; subst ho'
        rw [Addr.add_mid]; exact hc
      · have e0 : pp + j + k = pp + j + (bl (p.take k)).length := by rw [htl]
        rw [e0, hrow]
        exact hst.mem.upd hat
  obtain ⟨w', hrun, hmem⟩ := hrun
  unfold wpList
  rw [if_pos hw]
  refine .inl ?_
  unfold Oper.wp
  have : (execOp a.eval o).run X.P w = .ok (.value (.int .i64 (k : Int))) w' := by
    simp only [execOp, hop, resolve, invoke, builtin, Sem.run_bind, Sem.run_pure, Result.andThen_ok, List.map_toArray, List.map_cons, List.map_nil, hst.env.eval hx, hst.env.eval hy, hrun]
  rw [this]
  exact h _ _ ⟨hst.env.put hd _, hmem⟩
end
/-- The stores and the copies of a region. -/
def lateC : List Oper → Nat → List Nat
  | [], _ => []
  | o :: r, k => match o.op with
    | .store _ _ _ => k :: lateC r (k + 1)
    | .call c => (match c.callee with
      | .builtin .copy => k :: lateC r (k + 1)
      | _ => lateC r (k + 1))
    | _ => lateC r (k + 1)
theorem wc_drawC {X : Cx} {Q : Post} {s : Slots} {b : Blks} {id : Nat} {r : List Oper} (hm : X.P.follows .mixedOrders = true) (h : Wh X ⟨r.toArray, b, lateC r 0⟩ Q r.length [] s b) : Wc X (.region id r.toArray true) Q s b := wc_drawH b _ hm (SubL.refl b) h
end Go.Proofs.Ytdmmbkhnhfcmcaa
