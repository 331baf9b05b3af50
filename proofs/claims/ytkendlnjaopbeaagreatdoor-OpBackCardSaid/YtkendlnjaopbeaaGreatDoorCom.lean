/- How the worlds hang together from call to call: blocks known whole. -/
import Derived.WalkKit
import Derived.Handy
import Derived.ProofKit
import Derived.ChangeKeysEq
import Derived.Deep.QuietTactic
import Derived.BigQuiet
import Derived.Lib.Hide
namespace Go.Proofs.YtkendlnjaopbeaaGreatDoor
open Go.RowKit
/-- It returns v, and below it all is as it was. -/
def Ret (v : Value) (w : World) (e : Ending) (w' : World) : Prop := e = .returned v ∧ Below w.heap.size w w'

theorem blk_lt {w : World} {n : Nat} {o : Obj} (h : w.heap[n]? = some o) : n < w.heap.size := by
  by_cases hlt : n < w.heap.size
  · exact hlt
  · have hn : w.heap[n]? = none := by simp; omega
    simp [hn] at h
/-- Behind a call: what was known of blocks is known. -/
theorem carry {w W w1 : World} (hg : Below w.heap.size w W) (b : Below W.heap.size W w1) :
    Below w.heap.size w w1 ∧ W.heap.size ≤ w1.heap.size ∧ ∀ {n : Nat} {o : Obj}, W.heap[n]? = some o → w1.heap[n]? = some o :=
  ⟨hg.trans (b.mono hg.size), b.size, fun h => (b.block _ (blk_lt h)).trans h⟩
theorem ho {w : World} {n : Nat} {o o' : Obj} (h : w.heap[n]? = some o) : (w.alloc o').heap[n]? = some o :=
  by rw [World.alloc]; show (w.heap.push o')[n]? = _; rw [Array.getElem?_push, if_neg (Nat.ne_of_lt (blk_lt h))]; exact h
theorem hdr {w : World} {n : Nat} {o : Obj} (h : w.heap[n]? = some o) : w.drew.heap[n]? = some o := h
theorem nw {w : World} {o : Obj} : (w.alloc o).heap[w.heap.size]? = some o := by show (w.heap.push o)[w.heap.size]? = some o; simp
theorem nw1 {w : World} {o1 o : Obj} : ((w.alloc o1).alloc o).heap[w.heap.size + 1]? = some o := by
  have h := nw (w := w.alloc o1) (o := o)
  rwa [World.size_alloc] at h
theorem nw2 {w : World} {o1 o2 o : Obj} : (((w.alloc o1).alloc o2).alloc o).heap[w.heap.size + 1 + 1]? = some o := by
  have h := nw (w := (w.alloc o1).alloc o2) (o := o)
  rwa [World.size_alloc, World.size_alloc] at h
theorem nw3 {w : World} {o1 o2 o3 o : Obj} : ((((w.alloc o1).alloc o2).alloc o3).alloc o).heap[w.heap.size + 1 + 1 + 1]? = some o := by
  have h := nw (w := ((w.alloc o1).alloc o2).alloc o3) (o := o)
  rwa [World.size_alloc, World.size_alloc, World.size_alloc] at h
theorem nw4 {w : World} {o1 o2 o3 o4 o : Obj} : (((((w.alloc o1).alloc o2).alloc o3).alloc o4).alloc o).heap[w.heap.size + 1 + 1 + 1 + 1]? = some o := by
  have h := nw (w := (((w.alloc o1).alloc o2).alloc o3).alloc o4) (o := o)
  rwa [World.size_alloc, World.size_alloc, World.size_alloc, World.size_alloc] at h
theorem nw5 {w : World} {o1 o2 o3 o4 o5 o : Obj} : ((((((w.alloc o1).alloc o2).alloc o3).alloc o4).alloc o5).alloc o).heap[w.heap.size + 1 + 1 + 1 + 1 + 1]? = some o := by
  have h := nw (w := ((((w.alloc o1).alloc o2).alloc o3).alloc o4).alloc o5) (o := o)
  rwa [World.size_alloc, World.size_alloc, World.size_alloc, World.size_alloc, World.size_alloc] at h
/-- The three rules of a block known whole. -/
theorem rules {w : World} {n : Nat} {cs : Array Value} {t : TypeId} (h : w.heap[n]? = some (.cells cs t)) :
    (∀ i, w.cell? ⟨n, i, none⟩ = cs[i]?) ∧ (∀ i, w.frozen? ⟨n, i, none⟩ = false) ∧ n < w.heap.size :=
  ⟨fun i => cell_of_row w n i cs t _ h, fun i => frozen_of_row w n i cs t h, blk_lt h⟩

/-! ### A world that has grown: whatever stood is as it was. What stands is found by instances, however long the chain. -/
structure Grow (w : World) where
  to : World
  below : Below w.heap.size w to
theorem Grow.size {w : World} (x : Grow w) : w.heap.size ≤ x.to.heap.size := x.below.size
class LeSize (b : Nat) (w : World) : Prop where
  out : b ≤ w.heap.size
class LtSize (b : Nat) (w : World) : Prop where
  out : b < w.heap.size
instance LeSize.self (w : World) : LeSize w.heap.size w := ⟨Nat.le_refl _⟩
instance LeSize.alloc (b : Nat) (w : World) (o : Obj) [h : LeSize b w] : LeSize b (w.alloc o) := ⟨by have := h.out; simp; omega⟩
instance LeSize.alloc1 (b : Nat) (w : World) (o : Obj) [h : LeSize b w] : LeSize (b + 1) (w.alloc o) := ⟨by have := h.out; simp; omega⟩
instance LtSize.alloc (b : Nat) (w : World) (o : Obj) [h : LeSize b w] : LtSize b (w.alloc o) := ⟨by have := h.out; simp; omega⟩
instance LtSize.set (b : Nat) (w : World) (a : Addr) (v : Value) [h : LtSize b w] : LtSize b (w.setCell a v) := ⟨by have := h.out; simpa using this⟩
instance LeSize.set (b : Nat) (w : World) (a : Addr) (v : Value) [h : LeSize b w] : LeSize b (w.setCell a v) := ⟨by have := h.out; simpa using this⟩
instance LtSize.drew (b : Nat) (w : World) [h : LtSize b w] : LtSize b w.drew := ⟨h.out⟩
instance LeSize.drew (b : Nat) (w : World) [h : LeSize b w] : LeSize b w.drew := ⟨h.out⟩
instance LtSize.grow (b : Nat) (w : World) (x : Grow w) [h : LtSize b w] : LtSize b x.to := ⟨Nat.lt_of_lt_of_le h.out x.size⟩
instance LeSize.grow (b : Nat) (w : World) (x : Grow w) [h : LtSize b w] : LeSize b x.to := ⟨Nat.le_trans (Nat.le_of_lt h.out) x.size⟩
instance LeSize.grow1 (b : Nat) (w : World) (x : Grow w) [h : LeSize b w] : LeSize b x.to := ⟨Nat.le_trans h.out x.size⟩
instance (priority := low) LeSize.of_lt (b : Nat) (w : World) [h : LtSize b w] : LeSize b w := ⟨Nat.le_of_lt h.out⟩
theorem le_size {b : Nat} {w : World} [h : LeSize b w] : b ≤ w.heap.size := h.out
theorem le_size1 {b : Nat} {w : World} [h : LeSize b w] : b ≤ w.heap.size + 1 := Nat.le_trans h.out (by omega)
theorem le_size2 {b : Nat} {w : World} [h : LeSize b w] : b ≤ w.heap.size + 1 + 1 := Nat.le_trans h.out (by omega)
theorem le_size3 {b : Nat} {w : World} [h : LeSize b w] : b ≤ w.heap.size + 1 + 1 + 1 := Nat.le_trans h.out (by omega)
@[go_sem] theorem Grow.cell {w : World} (x : Grow w) (b o : Nat) [h : LtSize b w] : x.to.cell? ⟨b, o, none⟩ = w.cell? ⟨b, o, none⟩ := x.below.cell (p := ⟨b, o, none⟩) h.out
@[go_sem] theorem Grow.frozen {w : World} (x : Grow w) (b o : Nat) [h : LtSize b w] : x.to.frozen? ⟨b, o, none⟩ = w.frozen? ⟨b, o, none⟩ := x.below.frozen (p := ⟨b, o, none⟩) h.out
@[go_sem] theorem Grow.lt {w : World} (x : Grow w) (b : Nat) [h : LtSize b w] : b < x.to.heap.size := Nat.lt_of_lt_of_le h.out x.below.size
@[go_sem] theorem Grow.ne {w : World} (x : Grow w) (b k : Nat) [h : LtSize b w] : (b = x.to.heap.size + k) = False := eq_false (by have := x.lt b; omega)
@[go_sem] theorem Grow.ne' {w : World} (x : Grow w) (b k : Nat) [h : LtSize b w] : (x.to.heap.size + k = b) = False := eq_false (by have := x.lt b; omega)
@[go_sem] theorem Grow.ne0 {w : World} (x : Grow w) (b : Nat) [h : LtSize b w] : (b = x.to.heap.size) = False := eq_false (by have := x.lt b; omega)
@[go_sem] theorem Grow.ne0' {w : World} (x : Grow w) (b : Nat) [h : LtSize b w] : (x.to.heap.size = b) = False := eq_false (by have := x.lt b; omega)
@[go_sem] theorem cell_old (w : World) (o : Obj) (b i : Nat) [h : LtSize b w] : (w.alloc o).cell? ⟨b, i, none⟩ = w.cell? ⟨b, i, none⟩ := by
  have := h.out
  exact World.cell?_alloc_lt (w := w) (a := ⟨b, i, none⟩) (o := o) this
@[go_sem] theorem frozen_old (w : World) (o : Obj) (b i : Nat) [h : LtSize b w] : (w.alloc o).frozen? ⟨b, i, none⟩ = w.frozen? ⟨b, i, none⟩ := World.frozen?_alloc_old (w := w) (a := ⟨b, i, none⟩) (o := o) (Nat.ne_of_lt h.out)
@[go_sem] theorem set_old (w : World) (o : Obj) (b i : Nat) (v : Value) [h : LtSize b w] : (w.alloc o).setCell ⟨b, i, none⟩ v = (w.setCell ⟨b, i, none⟩ v).alloc o := World.setCell_alloc_past (w := w) o b i v h.out
@[go_sem] theorem ne_up1 (n : Nat) : (n = n + 1) = False := eq_false (by omega)
@[go_sem] theorem up1_ne (n : Nat) : (n + 1 = n) = False := eq_false (by omega)
@[go_sem] theorem ne_up2 (n : Nat) : (n = n + 1 + 1) = False := eq_false (by omega)
@[go_sem] theorem up2_ne (n : Nat) : (n + 1 + 1 = n) = False := eq_false (by omega)
@[go_sem] theorem ne_up3 (n : Nat) : (n = n + 1 + 1 + 1) = False := eq_false (by omega)
@[go_sem] theorem up3_ne (n : Nat) : (n + 1 + 1 + 1 = n) = False := eq_false (by omega)
@[go_sem] theorem ne_up4 (n : Nat) : (n = n + 1 + 1 + 1 + 1) = False := eq_false (by omega)
@[go_sem] theorem up4_ne (n : Nat) : (n + 1 + 1 + 1 + 1 = n) = False := eq_false (by omega)
@[go_sem] theorem ne_up5 (n : Nat) : (n = n + 1 + 1 + 1 + 1 + 1) = False := eq_false (by omega)
@[go_sem] theorem up5_ne (n : Nat) : (n + 1 + 1 + 1 + 1 + 1 = n) = False := eq_false (by omega)
@[go_sem] theorem ne_up6 (n : Nat) : (n = n + 1 + 1 + 1 + 1 + 1 + 1) = False := eq_false (by omega)
@[go_sem] theorem up6_ne (n : Nat) : (n + 1 + 1 + 1 + 1 + 1 + 1 = n) = False := eq_false (by omega)
@[go_sem] theorem ne_up7 (n : Nat) : (n = n + 1 + 1 + 1 + 1 + 1 + 1 + 1) = False := eq_false (by omega)
@[go_sem] theorem up7_ne (n : Nat) : (n + 1 + 1 + 1 + 1 + 1 + 1 + 1 = n) = False := eq_false (by omega)
@[go_sem] theorem ne_up8 (n : Nat) : (n = n + 1 + 1 + 1 + 1 + 1 + 1 + 1 + 1) = False := eq_false (by omega)
@[go_sem] theorem up8_ne (n : Nat) : (n + 1 + 1 + 1 + 1 + 1 + 1 + 1 + 1 = n) = False := eq_false (by omega)
@[go_sem] theorem ne_up9 (n : Nat) : (n = n + 1 + 1 + 1 + 1 + 1 + 1 + 1 + 1 + 1) = False := eq_false (by omega)
@[go_sem] theorem up9_ne (n : Nat) : (n + 1 + 1 + 1 + 1 + 1 + 1 + 1 + 1 + 1 = n) = False := eq_false (by omega)
theorem Grow.heap {w : World} (x : Grow w) {n : Nat} {o : Obj} (h : w.heap[n]? = some o) : x.to.heap[n]? = some o := (x.below.block _ (blk_lt h)).trans h
/-- A contract 'it returns v and below it all is as it was' in the walk: the world behind it has grown. -/
theorem grow {P : Program} {f : FuncId} {args : Array Value} {W : World} {v : Value} (h : Calls P f args W (Ret v W)) : Calls P f args W fun e w' => ∃ x : Grow W, e = .returned v ∧ w' = x.to :=
  h.mono fun _ w' ⟨he, hb⟩ => ⟨⟨w', hb⟩, he, rfl⟩
/-- The same inside a region that draws its order. -/
theorem grow_in {P : Program} {f : FuncId} {args : Array Value} {W : World} {x : Grow W} {v : Value} (h : Calls P f args x.to (Ret v x.to)) : Calls P f args x.to fun e w'' => e = .returned v ∧ ∃ y : Grow W, w'' = y.to :=
  h.mono fun _ w' ⟨he, hb⟩ => ⟨he, ⟨w', x.below.trans (hb.mono x.below.size)⟩, rfl⟩
theorem wp_region_grow {P : Program} {id : Nat} {Q : Exit → Act → World → Prop} {a : Act} {w : World} {l : List Oper} (hm : P.follows .mixedOrders = true) (hB : Region.lexB .any l.toArray = true)
    (h : wpQuiet P l.toArray (fun w' => ∃ x : Grow w, w' = x.to) (fun a' => ∀ w', (∃ x : Grow w, w' = x.to) → Q .normal a' w') l a) : (Code.region id l.toArray true).wp P Q a w :=
  wp_region_quiet (C := fun w' => ∃ x : Grow w, w' = x.to) hm hB ⟨⟨w.drew, (Below.refl _ _).drew⟩, rfl⟩ (by simpa using h)
/-! 'Below' from step to step, with no side condition but a store's. -/
theorem up {a w : World} (h : Below a.heap.size a w) (x : Grow w) : Below a.heap.size a x.to := h.trans (x.below.mono h.size)
theorem up_alloc {a w : World} (h : Below a.heap.size a w) (o : Obj) : Below a.heap.size a (w.alloc o) := h.alloc h.size o
theorem up_drew {a w : World} (h : Below a.heap.size a w) : Below a.heap.size a w.drew := h.drew
theorem up_set {a w : World} (h : Below a.heap.size a w) {p : Addr} (hp : a.heap.size ≤ p.block) (v : Value) : Below a.heap.size a (w.setCell p v) := h.setCell hp v
theorem le_alloc {n : Nat} {w : World} {o : Obj} (h : n ≤ w.heap.size) : n ≤ (w.alloc o).heap.size := by simp; omega
theorem le_set {n : Nat} {w : World} {p : Addr} {v : Value} (h : n ≤ w.heap.size) : n ≤ (w.setCell p v).heap.size := by simpa using h
theorem le_drew {n : Nat} {w : World} (h : n ≤ w.heap.size) : n ≤ w.drew.heap.size := h
theorem eqItems_ints {P : Program} (w : World) (d : Nat) {e : TypeId} {k k' : IntKind} (he : P.plainKey e = true) (hk : P.underlying e = some (.int k')) (zs us : List Int) :
    ∀ (n m : Nat), zs.length = m + n → us.length = m + n →
    (Op.eqItems (d + 1) e 1 (zs.map (Value.int k)).toArray (us.map (Value.int k)).toArray (List.range' m n)).run P w = .ok (zs.drop m == us.drop m) w
  | 0, m, hz, hu => by
    rw [List.drop_of_length_le (by omega), List.drop_of_length_le (by omega)]
    simp [Op.eqItems]
  | n + 1, m, hz, hu => by
    have ih := eqItems_ints w d (k := k) he hk zs us n (m + 1) (by omega) (by omega)
    have lz : m < zs.length := by omega
    have lu : m < us.length := by omega
    have p1 := run_part_plain (P := P) w he (xs := (zs.map (Value.int k)).toArray) (off := m) (v := .int k zs[m]) (by simp [lz])
    have p2 := run_part_plain (P := P) w he (xs := (us.map (Value.int k)).toArray) (off := m) (v := .int k us[m]) (by simp [lu])
    rw [List.range'_succ]
    simp only [Op.eqItems, Sem.run_bind, Nat.mul_one, p1, p2, Result.andThen_ok, run_equalIn_int w d e k k' _ _ hk]
    rw [List.drop_eq_getElem_cons lz, List.drop_eq_getElem_cons lu]
    by_cases h : zs[m] = us[m]
    · simp only [h, beq_self_eq_true, Bool.not_true, Bool.false_eq_true, if_false, ih, List.cons_beq_cons, Bool.true_and]
    · have hb : (zs[m] == us[m]) = false := by simpa using h
      simp only [hb, Bool.not_false, if_true, Sem.run_pure, List.cons_beq_cons, Bool.false_and]
theorem eql_ints {P : Program} (w : World) (d : Nat) {t e : TypeId} {k k' : IntKind} (n : Nat) (zs us : List Int) (ht : P.underlying t = some (.array n e)) (h1 : P.cellsOf e = 1) (hi : (P.info? e).isSome = true)
    (he : P.plainKey e = true) (hk : P.underlying e = some (.int k')) (hz : zs.length = n) (hu : us.length = n) :
    (Op.equalIn (d + 2) t (.agg (zs.map (Value.int k)).toArray) (.agg (us.map (Value.int k)).toArray)).run P w = .ok (zs == us) w := by
  obtain ⟨i, hi⟩ := Option.isSome_iff_exists.1 hi
  rw [run_equalIn_array w (d + 1) _ _ ht hi, h1, List.range_eq_range']
  exact eqItems_ints w d he hk zs us n 0 (by omega) (by omega)
end Go.Proofs.YtkendlnjaopbeaaGreatDoor
