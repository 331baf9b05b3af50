/- New slices of records of the walk's own, and stores into them. -/
import Derived.Test.YtkbgkobbadjpnaaDoorRec
import Derived.Test.YtkbgkobbadjpnaaDoorBytesAll
namespace Go.Proofs.YtkbgkobbadjpnaaDoor
open Go.RowKit
set_option linter.unusedVariables false
set_option linter.unusedSimpArgs false
section
variable {X : Cx} {s : Slots} {l : Blks} {o : Oper} {v : Value} {Q : Post} {ops : Array Oper} {r : List Oper}
/-- A new slice of n records. -/
theorem wl_makeR {t e k bytes n : Nat} {z : Array Value} {x y : Operand} {kx ky : IntKind} {s' : Value → Slots} {f : Blks → Blks} (hg : gd s ops o = some true) (hd : dOk X.N o.dst = true) (hop : o.op = .makeSlice t x y) (hx : val s x = some (.int kx (n : Int))) (hy : val s y = some (.int ky (n : Int)))
    [ht : UT X.P t (.slice e)] [hei : EI X.P e k bytes z] [hf : Snoc l f] (h : ∀ v' xs oa', OwnL e k v' n xs oa' → Wl X ops Q r (s' v') (f oa'))
    (hb : n * bytes ≤ 140737488355328 ∧ n ≤ 1152921504606846976 := by (refine ⟨?_, ?_⟩ <;> omega))
    (hs' : ∀ v', sputO s o.dst v' = s' v' := by intro _; (try dsimp only [sputO, sput, Nat.reduceBEq, cond_true, cond_false, beq_self_eq_true]); first | done | exact rfl) : Wl X ops Q (o :: r) s l := fun ac w hst => by
  obtain rfl : (fun v' => sputO s o.dst v') = s' := funext hs'
  have hw := gd_wanted hst.env hg
  obtain ⟨i, zv, hi, rfl, hby, hz, hzc, hzs⟩ := hei.out
  have hr := run_make (P := X.P) w t e i zv ht.out hi hz kx ky (n : Int) (n : Int) (by omega) (Int.le_refl _) (by rw [hby, ← Int.natCast_mul, Nat.mul_comm]; omega) (by omega)
  rw [Int.toNat_natCast] at hr
  have hsz : (madeCells zv.cells (n * i.size)).size = n * i.size := size_madeCells _ _
  unfold wpList
  rw [if_pos hw]
  refine .inl ?_
  unfold Oper.wp
  have : (execOp ac.eval o).run X.P w = .ok (.value (.slice (some ⟨w.heap.size, 0, none⟩) n n)) (w.alloc (.cells (madeCells zv.cells (n * i.size)) e)) := by
    simp only [execOp, hop, hst.env.eval hx, hst.env.eval hy, Sem.run_bind, hr, Result.andThen_ok, Sem.run_pure]
  rw [this]
  haveI : Seg l [] f := ⟨l, [], by simp, fun o => by rw [hf.out, List.append_nil]⟩
  refine h _ (madeCells zv.cells (n * i.size)).toList [(w.heap.size, (madeCells zv.cells (n * i.size), e))] ⟨by rw [Array.length_toList, hsz], .inr ⟨w.heap.size, n, madeCells zv.cells (n * i.size), rfl, Nat.le_refl _, ?_, hsz, ?_, rfl⟩⟩ _ _ ⟨hst.env.put hd _, (upd_new (w := w) (w1 := w) rfl rfl rfl rfl [] _ e).mem hst.mem⟩
  · simp only [maxLen]; omega
  · rw [List.take_of_length_le (by rw [Array.length_toList, hsz]; exact Nat.le_refl _)]
/-- A record is put into a slice of the walk's own. -/
theorem wl_putR {x y : Operand} {e k n j : Nat} {u : Value} {xs cs xs' : List Value} {oa : Blks} {f : Blks → Blks} (hg : gd s ops o = some true) (ho : o.op = .store e x y)
    (hx : val s x = some (.pointer (some ⟨elB u, elO u + j, none⟩))) (hy : val s y = some (.agg cs.toArray)) [hs : SZ X.P e k] [hown : OwnL e k u n xs oa] [hseg : Seg l oa f]
    (h : ∀ oa', OwnL e k u n xs' oa' → Wl X ops Q r s (f oa')) (hj : j + k ≤ n * k := by first | (with_reducible assumption) | omega) (h1 : cs.all (·.oneCell') = true := by with_reducible assumption) (hk : cs.length = k := by first | (with_reducible assumption) | rfl)
    (hq : xs.take j ++ (cs ++ xs.drop (j + k)) = xs' := by first | (with_reducible assumption) | rfl) (hk0 : k ≠ 0 := by decide) (hdn : o.dst = none := by rfl) : Wl X ops Q (o :: r) s l := fun ac w hst => by
  subst hq
  have hw := gd_wanted hst.env hg
  have hdd : Hd oa w := by
    obtain ⟨pre, post, rfl, _⟩ := hseg.out
    intro p hp
    exact hst.mem.cls.now p.1 p.2.1 p.2.2 (mu_mem_of (by simp [hp]) hst.mem.nd)
  have hxl := hown.len
  rcases hown.out with ⟨rfl, rfl, rfl⟩ | ⟨g, cap, cur, rfl, hnc, hcm, hcs, htake, rfl⟩
  · omega
  have hgb : w.heap[g]? = some (.cells cur e (0, 0)) := hdd (g, (cur, e)) (by simp)
  have hle : n * k ≤ cap * k := Nat.mul_le_mul_right _ hnc
  have hrun := run_storeAt_mid (P := X.P) w g (0 + j) e cs.toArray (fun i hi => by
    constructor
    · rw [cell_of_row w g (0 + j + i) cur e _ hgb]
      have : 0 + j + i < cur.size := by simp at hi; omega
      simp only [Nat.zero_add] at this ⊢
      simp [this]
    · exact frozen_of_row w g (0 + j + i) cur e hgb) (by rw [hs.out]; simp [hk]) (by simpa using h1)
  rw [setCells_row g e _ (0 + j) cur w hgb (by simp; omega)] at hrun
  unfold wpList
  rw [if_pos hw]
  refine .inl ?_
  unfold Oper.wp
  have hx' := hst.env.eval hx
  have : (execOp ac.eval o).run X.P w = .ok .skip (w.setRow g (putR cur.toList (0 + j) cs).toArray) := by
    simp only [execOp, ho, hx', hst.env.eval hy, Sem.run_bind, elB, elO, hrun, Result.andThen_ok, Sem.run_pure]
  rw [this]
  have hs0 : sputO s o.dst undef = s := by rw [hdn]; rfl
  have hlen : (putR cur.toList (0 + j) cs).length = cap * k := by
    unfold putR
    simp only [List.length_append, List.length_take, List.length_drop, Array.length_toList, hcs, hk]
    omega
  have hup : Upd w [(g, (cur, e))] (w.setRow g (putR cur.toList (0 + j) cs).toArray) [(g, ((putR cur.toList (0 + j) cs).toArray, e))] :=
    ⟨rfl, rfl, rfl, by simp, fun k' hk' hne => setRow_other w g k' _ (fun e => hne (by simp [keys, e])), by simp [keys], hd_one (setRow_heap w g cur _ e _ hgb), fun n hn => .inl (by simpa [keys] using hn)⟩
  have htk : (putR cur.toList (0 + j) cs).take (n * k) = xs.take j ++ (cs ++ xs.drop (j + k)) := by
    have hA : (List.take j cur.toList).length = j := by rw [List.length_take, Array.length_toList]; omega
    have hB : List.take (n * k - j) cs = cs := List.take_of_length_le (by omega)
    rw [← htake]
    unfold putR
    simp only [Nat.zero_add]
    rw [List.append_assoc, List.take_append, List.take_append, hA, hB, List.take_take, List.take_take, List.drop_take, hk, Nat.min_eq_right (by omega), Nat.min_eq_left (by omega)]
    congr 3
    omega
  have hd0 : dOk X.N o.dst = true := by rw [hdn]; rfl
  refine (show Wl X ops Q r (sputO s o.dst undef) (f [(g, ((putR cur.toList (0 + j) cs).toArray, e))]) from by
    rw [hs0]
    refine h _ ⟨?_, .inr ⟨g, cap, (putR cur.toList (0 + j) cs).toArray, rfl, hnc, hcm, (by show (putR cur.toList (0 + j) cs).length = cap * k; exact hlen), htk, rfl⟩⟩
    rw [← htk, List.length_take, hlen]
    exact Nat.min_eq_left hle) _ _ ⟨hst.env.put hd0 _, hup.mem hst.mem⟩
/-- A new slice of one record. -/
theorem wl_bslice1 {t e k bytes : Nat} {z c : Array Value} {ps : Array (Nat × Operand)} {f : Blks → Blks} {s' : Value → Slots}
    (hg : gd s ops o = some true) (hd : dOk X.N o.dst = true) (hop : o.op = .buildSlice t 1 ps) (hx : valsP s ps.toList = some [(0, .agg c)]) [ht : UT X.P t (.slice e)] [hei : EI X.P e k bytes z] [hf : Snoc l f]
    (h : ∀ v' oa', OwnL e k v' 1 c.toList oa' → Wl X ops Q r (s' v') (f oa')) (hc : c.size = k := by first | (with_reducible assumption) | exact Cells.size) (hk : k ≤ 16777216 := by decide)
    (hs' : ∀ v', sputO s o.dst v' = s' v' := by intro _; (try dsimp only [sputO, sput, Nat.reduceBEq, cond_true, cond_false, beq_self_eq_true]); first | done | exact rfl) : Wl X ops Q (o :: r) s l :=
  wl_bslice hg hd hop hx h rfl (by simp [Value.cells, hc]) rfl ⟨by omega, by decide⟩ (by simp [Value.cells]) hs'
end
end Go.Proofs.YtkbgkobbadjpnaaDoor
