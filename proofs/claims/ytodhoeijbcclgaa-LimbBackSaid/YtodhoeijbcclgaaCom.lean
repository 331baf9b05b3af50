/- How the worlds hang together from call to call: blocks known whole. -/
import Derived.WalkKit
import Derived.Handy
import Derived.ProofKit
import Derived.ChangeKeysEq
import Derived.Lib.Hide
namespace Go.Proofs.Ytodhoeijbcclgaa
open Go.RowKit
/-- It returns v, and below it all is as it was. -/
def Ret (v : Value) (w : World) (e : Ending) (w' : World) : Prop := e = .returned v ∧ Below w.heap.size w w'

theorem blk_lt {w : World} {n : Nat} {o : Obj} (h : w.heap[n]? = some o) : n < w.heap.size := by
  by_cases hlt : n < w.heap.size
  · exact hlt
  · have hn : w.heap[n]? = none := by simp; omega
    simp [hn] at h
/-- Behind a call: what was known of blocks is known. -/
theorem carry {w W w1 : World} (hg : Below w.heap.size w W) (b : Below W.heap.size W w1) :
    Below w.heap.size w w1 ∧ W.heap.size ≤ w1.heap.size ∧ ∀ {n : Nat} {o : Obj}, W.heap[n]? = some o → w1.heap[n]? = some o :=
  ⟨hg.trans (b.mono hg.size), b.size, fun h => (b.block _ (blk_lt h)).trans h⟩
theorem ho {w : World} {n : Nat} {o o' : Obj} (h : w.heap[n]? = some o) : (w.alloc o').heap[n]? = some o :=
  by rw [World.alloc]; show (w.heap.push o')[n]? = _; rw [Array.getElem?_push, if_neg (Nat.ne_of_lt (blk_lt h))]; exact h
theorem hdr {w : World} {n : Nat} {o : Obj} (h : w.heap[n]? = some o) : w.drew.heap[n]? = some o := h
theorem nw {w : World} {o : Obj} : (w.alloc o).heap[w.heap.size]? = some o := by show (w.heap.push o)[w.heap.size]? = some o; simp
theorem nw1 {w : World} {o1 o : Obj} : ((w.alloc o1).alloc o).heap[w.heap.size + 1]? = some o := by
  have h := nw (w := w.alloc o1) (o := o)
  rwa [World.size_alloc] at h
theorem nw2 {w : World} {o1 o2 o : Obj} : (((w.alloc o1).alloc o2).alloc o).heap[w.heap.size + 1 + 1]? = some o := by
  have h := nw (w := (w.alloc o1).alloc o2) (o := o)
  rwa [World.size_alloc, World.size_alloc] at h
theorem nw3 {w : World} {o1 o2 o3 o : Obj} : ((((w.alloc o1).alloc o2).alloc o3).alloc o).heap[w.heap.size + 1 + 1 + 1]? = some o := by
  have h := nw (w := ((w.alloc o1).alloc o2).alloc o3) (o := o)
  rwa [World.size_alloc, World.size_alloc, World.size_alloc] at h
theorem nw4 {w : World} {o1 o2 o3 o4 o : Obj} : (((((w.alloc o1).alloc o2).alloc o3).alloc o4).alloc o).heap[w.heap.size + 1 + 1 + 1 + 1]? = some o := by
  have h := nw (w := (((w.alloc o1).alloc o2).alloc o3).alloc o4) (o := o)
  rwa [World.size_alloc, World.size_alloc, World.size_alloc, World.size_alloc] at h
theorem nw5 {w : World} {o1 o2 o3 o4 o5 o : Obj} : ((((((w.alloc o1).alloc o2).alloc o3).alloc o4).alloc o5).alloc o).heap[w.heap.size + 1 + 1 + 1 + 1 + 1]? = some o := by
  have h := nw (w := ((((w.alloc o1).alloc o2).alloc o3).alloc o4).alloc o5) (o := o)
  rwa [World.size_alloc, World.size_alloc, World.size_alloc, World.size_alloc, World.size_alloc] at h
/-- The three rules of a block known whole. -/
theorem rules {w : World} {n : Nat} {cs : Array Value} {t : TypeId} (h : w.heap[n]? = some (.cells cs t)) :
    (∀ i, w.cell? ⟨n, i, none⟩ = cs[i]?) ∧ (∀ i, w.frozen? ⟨n, i, none⟩ = false) ∧ n < w.heap.size :=
  ⟨fun i => cell_of_row w n i cs t _ h, fun i => frozen_of_row w n i cs t h, blk_lt h⟩
theorem eqItems_ints {P : Program} (w : World) (d : Nat) {e : TypeId} {k k' : IntKind} (he : P.plainKey e = true) (hk : P.underlying e = some (.int k')) (zs us : List Int) :
    ∀ (n m : Nat), zs.length = m + n → us.length = m + n →
    (Op.eqItems (d + 1) e 1 (zs.map (Value.int k)).toArray (us.map (Value.int k)).toArray (List.range' m n)).run P w = .ok (zs.drop m == us.drop m) w
  | 0, m, hz, hu => by
    rw [List.drop_of_length_le (by omega), List.drop_of_length_le (by omega)]
    simp [Op.eqItems]
  | n + 1, m, hz, hu => by
    have ih := eqItems_ints w d (k := k) he hk zs us n (m + 1) (by omega) (by omega)
    have lz : m < zs.length := by omega
    have lu : m < us.length := by omega
    have p1 := run_part_plain (P := P) w he (xs := (zs.map (Value.int k)).toArray) (off := m) (v := .int k zs[m]) (by simp [lz])
    have p2 := run_part_plain (P := P) w he (xs := (us.map (Value.int k)).toArray) (off := m) (v := .int k us[m]) (by simp [lu])
    rw [List.range'_succ]
    simp only [Op.eqItems, Sem.run_bind, Nat.mul_one, p1, p2, Result.andThen_ok, run_equalIn_int w d e k k' _ _ hk]
    rw [List.drop_eq_getElem_cons lz, List.drop_eq_getElem_cons lu]
    by_cases h : zs[m] = us[m]
    · simp only [h, beq_self_eq_true, Bool.not_true, Bool.false_eq_true, if_false, ih, List.cons_beq_cons, Bool.true_and]
    · have hb : (zs[m] == us[m]) = false := by simpa using h
      simp only [hb, Bool.not_false, if_true, Sem.run_pure, List.cons_beq_cons, Bool.false_and]
theorem eql_ints {P : Program} (w : World) (d : Nat) {t e : TypeId} {k k' : IntKind} (n : Nat) (zs us : List Int) (ht : P.underlying t = some (.array n e)) (h1 : P.cellsOf e = 1) (hi : (P.info? e).isSome = true)
    (he : P.plainKey e = true) (hk : P.underlying e = some (.int k')) (hz : zs.length = n) (hu : us.length = n) :
    (Op.equalIn (d + 2) t (.agg (zs.map (Value.int k)).toArray) (.agg (us.map (Value.int k)).toArray)).run P w = .ok (zs == us) w := by
  obtain ⟨i, hi⟩ := Option.isSome_iff_exists.1 hi
  rw [run_equalIn_array w (d + 1) _ _ ht hi, h1, List.range_eq_range']
  exact eqItems_ints w d he hk zs us n 0 (by omega) (by omega)
end Go.Proofs.Ytodhoeijbcclgaa
