/- Maps keyed by int: blocks that are maps or iterators; the operations on them. Maps keyed by int: the operations in the walk over lists. Items as bytes, in plain terms. Items that came in: a tag, a body. Items of the walk's own: a slice that nobody else holds, with bodies that stand in blocks of the walk's own. Attributes: what is checked, what is normal. Plain laws. Functions' values that have caught something: made, called. Slices of bytes that come in as arguments; the builtin min; and, or, xor of int. Bytes that are told as strings; bytes.Equal. A block of one's own, seen in a world. Attributes: kinds and values; find and Match, walked. What arguments are that came in, with how much they hold: shapes built out of shapes. attr.Match, walked; attributes that came in. attr.fits, walked. attr.Check, walked. Attributes of the walk's own: lists that nobody else holds. Equality told by a fact about the values; a slice against nil. slices.Clone of bytes, walked. attr.Get, attr.Is, slices.Clone of attributes, the laws' sameAttrs and attrs: walked. -/
import Derived.Test.YtjianfhodjapgaaOwnB
import Derived.MapKept
import Derived.Maps.RangeRun
import Derived.Test.YtjianfhodjapgaaLwH
import Derived.Test.YtjianfhodjapgaaCom
import Derived.Test.YtjianfhodjapgaaLwDraw
import Derived.ChangeSlices
import Derived.Below
import Derived.WideShapes
import Derived.Test.YtjianfhodjapgaaTyS
import Derived.Laws.BytesArg
import Derived.Laws.Strings
import Derived.Test.YtjianfhodjapgaaRows
import Derived.OpenShut
import Derived.DataReads
import Derived.ChangeSame
import Derived.Test.YtjianfhodjapgaaOwnOps
namespace Go.Proofs.Ytjianfhodjapgaa
open Go.RowKit
set_option linter.unusedVariables false
set_option linter.unusedSimpArgs false
/-- An entry: key, value, stamp. -/
abbrev Ent := Int × Value × Nat
def entE (x : Ent) : MapEntry := ⟨.int .i64 x.1, x.2.1, x.2.2⟩
def entV (x : Ent) : Value := .agg #[.int .i64 x.1, x.2.1, .int .i64 (x.2.2 : Int)]
/-- A block that is a map. -/
def mapB (m : List Ent) (clock : Nat) : Array Value × TypeId := ((m.map entV).toArray, BIG + 2 * clock)
/-- A block that is the iterator of a map. -/
def iterB (g since : Nat) (seen : List Nat) (step : Nat) : Array Value × TypeId :=
  ((Value.int .i64 (g : Int) :: Value.int .i64 (since : Int) :: seen.map fun (b : Nat) => Value.int .i64 (b : Int)).toArray, BIG + 2 * step + 1)
theorem not_big (n : Nat) : Nat.blt (BIG + n) BIG = false := by
  cases h : Nat.blt (BIG + n) BIG with
  | false => rfl
  | true => have := Nat.le_of_ble_eq_true (show Nat.ble (BIG + n + 1) BIG = true from h); omega
theorem toObj_map (m : List Ent) (clock : Nat) : toObj (mapB m clock) = .map (m.map entE).toArray clock := by
  unfold toObj mapB
  have h0 := not_big (2 * clock)
  generalize BIG = B at *
  have h1 : B + 2 * clock - B = 2 * clock := by omega
  have h2 : (2 * clock % 2 == 0) = true := by simp
  have h3 : 2 * clock / 2 = clock := by omega
  dsimp only
  rw [h0, h1, h2, h3, cond_false, cond_true]
  congr 1
  rw [List.map_toArray, List.map_map]
  congr 1
theorem toObj_iter (g since : Nat) (seen : List Nat) (step : Nat) : toObj (iterB g since seen step) = .mapIter (some g) since seen.toArray step := by
  unfold toObj iterB
  have h0 := not_big (2 * step + 1)
  rw [← Nat.add_assoc] at h0
  generalize BIG = B at *
  have h1 : B + 2 * step + 1 - B = 2 * step + 1 := by omega
  have h2 : ((2 * step + 1) % 2 == 0) = false := by simp
  have h3 : (2 * step + 1) / 2 = step := by omega
  dsimp only
  rw [h0, h1, h2, h3, cond_false, cond_false]
  congr 1
  simp [unV, List.extract]
  simp [Function.comp_def, unV]
/-! ### What stands there -/
def mfind (k : Int) : List Ent → Nat → Option (Nat × Value)
  | [], _ => none
  | x :: r, i => bif k == x.1 then some (i, x.2.1) else mfind k r (i + 1)
def mget (m : List Ent) (k : Int) : Option Value := (mfind k m 0).map (·.2)
def mset (m : List Ent) (k : Int) (v : Value) (clock : Nat) : List Ent × Nat := match mfind k m 0 with
  | some (i, _) => (m.modify i fun x => (k, v, x.2.2), clock)
  | none => (m ++ [(k, v, clock)], clock + 1)
def mdel (m : List Ent) (k : Int) : List Ent := match mfind k m 0 with
  | some (i, _) => m.eraseIdx i
  | none => m
theorem findNow_m {q : IntKind} (k : Int) : ∀ (m : List Ent) (i : Nat), Instr.findNow (.int q) (.int .i64 k) (m.map entE) i = some (mfind k m i)
  | [], _ => rfl
  | x :: r, i => by
    show (match Instr.sameNow (.int q) (.int .i64 k) (.int .i64 x.1) with | some true => some (some (i, x.2.1)) | some false => Instr.findNow (.int q) (.int .i64 k) (r.map entE) (i + 1) | none => none) = _
    have : Instr.sameNow (.int q) (.int .i64 k) (.int .i64 x.1) = some (k == x.1) := by simp [Instr.sameNow]
    rw [this, mfind]
    cases k == x.1 with
    | true => rfl
    | false => exact findNow_m k r (i + 1)
section
variable {P : Program} {w : World} {mt kt et b clock : Nat} {m : List Ent} {k : Int}
theorem run_findKey_m (hd : P.underlying kt = some (.int .i64)) (k : Int) (m : List Ent) : (Instr.findKey kt (.int .i64 k) (m.map entE)).run P w = .ok (mfind k m 0) w :=
  MapKept.run_findKey hd (findNow_m k m 0)
theorem run_check_m (hd : P.underlying kt = some (.int .i64)) (k : Int) (e : Bool) : (Instr.checkKey e 10000 kt (.int .i64 k)).run P w = .ok () w := by
  unfold Instr.checkKey
  simp [Sem.run_bind, run_underlying hd, Result.andThen]
theorem run_lookup_m (ht : P.underlying mt = some (.map kt et)) (hd : P.underlying kt = some (.int .i64)) {z : Value} (hz : (zeroValue et).run P w = .ok z w) (hb : w.heap[b]? = some (.map (m.map entE).toArray clock)) :
    (Instr.lookup mt (.map (some b)) (.int .i64 k) true).run P w = .ok (.tuple #[(mget m k).getD z, .bool (mget m k).isSome]) w := by
  unfold mget
  have hf := run_findKey_m (P := P) (w := w) hd k m
  cases h : mfind k m 0 with
  | none => rw [h] at hf; simp [Instr.lookup, run_underlying ht, MapKept.run_getObj_map hb, run_check_m hd, hf, hz, Result.andThen]
  | some x => rw [h] at hf; simp [Instr.lookup, run_underlying ht, MapKept.run_getObj_map hb, run_check_m hd, hf, Result.andThen]
theorem mfind_get {k : Int} : ∀ {m : List Ent} {i j : Nat} {v : Value}, mfind k m i = some (j, v) → ∃ n x, j = i + n ∧ m[n]? = some x ∧ x.1 = k ∧ x.2.1 = v
  | [], _, _, _, h => by cases h
  | y :: r, i, j, v, h => by
    rw [mfind] at h
    cases e : k == y.1 with
    | true =>
      rw [e, cond_true] at h
      cases h
      exact ⟨0, y, rfl, rfl, (by simpa using e : k = y.1).symm, rfl⟩
    | false =>
      rw [e, cond_false] at h
      obtain ⟨n, x, h1, h2, h3, h4⟩ := mfind_get h
      exact ⟨n + 1, x, by omega, by simpa using h2, h3, h4⟩
theorem mfind_none {k : Int} : ∀ {m : List Ent} {i : Nat}, mfind k m i = none → ∀ x ∈ m, x.1 ≠ k
  | [], _, _, x, hx => by cases hx
  | y :: r, i, h, x, hx => by
    rw [mfind] at h
    cases e : k == y.1 with
    | true => rw [e, cond_true] at h; cases h
    | false =>
      rw [e, cond_false] at h
      rcases List.mem_cons.1 hx with rfl | hx
      · intro he; rw [he] at e; simp at e
      · exact mfind_none h x hx
theorem run_update_m {v : Value} (ht : P.underlying mt = some (.map kt et)) (hd : P.underlying kt = some (.int .i64)) (hb : w.heap[b]? = some (.map (m.map entE).toArray clock)) :
    (Instr.mapUpdate mt (.map (some b)) (.int .i64 k) v).run P w = .ok () { w with heap := w.heap.setIfInBounds b (.map ((mset m k v clock).1.map entE).toArray (mset m k v clock).2) } := by
  have hf := run_findKey_m (P := P) (w := w) hd k m
  unfold mset
  cases h : mfind k m 0 with
  | none => rw [h] at hf; simp [Instr.mapUpdate, run_underlying ht, MapKept.run_getObj_map hb, run_check_m hd, hf, MapKept.run_setObj_map _ hb, Result.andThen, entE]
  | some x =>
    obtain ⟨j, u⟩ := x
    rw [h] at hf
    obtain ⟨n, x, rfl, h2, h3, h4⟩ := mfind_get h
    rw [Nat.zero_add] at h hf
    have hk : (Instr.keyThatStays (.int .i64 k) (.int .i64 k)).run P w = .ok (.int .i64 k) w := by simp [Instr.keyThatStays, Instr.sameBits, Sem.run]
    have hm : ((m.map entE).toArray.modify n fun e => { e with key := .int .i64 k, val := v }) = ((m.modify n fun x => (k, v, x.2.2)).map entE).toArray := by
      apply Array.ext'
      rw [Array.toList_modify]
      dsimp only
      apply List.ext_getElem?
      intro i
      simp only [List.getElem?_modify, List.getElem?_map]
      cases m[i]? with
      | none => rfl
      | some y => by_cases e : n = i <;> simp [e, entE]
    have hr : (Instr.mapUpdate mt (.map (some b)) (.int .i64 k) v).run P w = .ok () { w with heap := w.heap.setIfInBounds b (.map ((m.map entE).toArray.modify n fun e => { e with key := .int .i64 k, val := v }) clock) } := by
      have hkk : (((m.map entE).toArray[n]?).map (·.key)).getD (.int .i64 k) = .int .i64 k := by simp [h2, h3, entE]
      simp only [Instr.mapUpdate, Sem.run_bind, run_underlying ht, MapKept.run_getObj_map hb, run_check_m hd, hf, Result.andThen, Nat.zero_add, hkk, hk, MapKept.run_setObj_map _ hb]
    rw [hr, hm]
    dsimp only
    rw [Nat.zero_add]
theorem er_map : ∀ (m : List Ent) (n : Nat), (m.eraseIdx n).map entE = (m.map entE).eraseIdx n
  | [], n => rfl
  | x :: r, 0 => rfl
  | x :: r, n + 1 => by simp [er_map r n]
theorem run_delete_m {ty : TypeId} (ht : P.underlying mt = some (.map kt et)) (hd : P.underlying kt = some (.int .i64)) (hb : w.heap[b]? = some (.map (m.map entE).toArray clock)) :
    (Builtin.delete_ #[mt, kt] ty #[.map (some b), .int .i64 k]).run P w = .ok (.tuple #[]) { w with heap := w.heap.setIfInBounds b (.map ((mdel m k).map entE).toArray clock) } := by
  have hf := run_findKey_m (P := P) (w := w) hd k m
  unfold mdel
  cases h : mfind k m 0 with
  | none => rw [h] at hf; simp [Builtin.delete_, run_underlying ht, MapKept.run_getObj_map hb, run_check_m hd, hf, MapKept.run_setObj_map _ hb, Result.andThen]
  | some x =>
    obtain ⟨j, u⟩ := x
    rw [h] at hf
    obtain ⟨n, x, rfl, h2, h3, h4⟩ := mfind_get h
    have hlt : n < m.length := (List.getElem?_eq_some_iff.1 h2).1
    rw [Nat.zero_add] at h hf
    have hm : (m.map entE).toArray.eraseIdxIfInBounds n = ((m.eraseIdx n).map entE).toArray := by
      unfold Array.eraseIdxIfInBounds
      rw [dif_pos (by simpa using hlt)]
      apply Array.ext'
      simp only [List.eraseIdx_toArray, Array.toList_eraseIdx]
      exact (er_map m n).symm
    have hr : (Builtin.delete_ #[mt, kt] ty #[.map (some b), .int .i64 k]).run P w = .ok (.tuple #[]) { w with heap := w.heap.setIfInBounds b (.map ((m.map entE).toArray.eraseIdxIfInBounds n) clock) } := by
      simp [Builtin.delete_, run_underlying ht, MapKept.run_getObj_map hb, run_check_m hd, hf, MapKept.run_setObj_map _ hb, Result.andThen]
    rw [hr, hm]
    dsimp only
    rw [Nat.zero_add]
theorem run_clear_m {ty : TypeId} (ht : P.underlying mt = some (.map kt et)) (hb : w.heap[b]? = some (.map (m.map entE).toArray clock)) :
    (Builtin.clear_ #[mt] ty #[.map (some b)]).run P w = .ok (.tuple #[]) { w with heap := w.heap.setIfInBounds b (.map (([] : List Ent).map entE).toArray clock) } := by
  simp [Builtin.clear_, run_underlying ht, MapKept.run_getObj_map hb, MapKept.run_setObj_map _ hb, Result.andThen]
theorem run_len_m {ty : TypeId} (ht : P.underlying mt = some (.map kt et)) (hb : w.heap[b]? = some (.map (m.map entE).toArray clock)) :
    (Builtin.len_ #[mt] ty #[.map (some b)]).run P w = .ok (.int .i64 (m.length : Int)) w := by
  simp [Builtin.len_, run_underlying ht, MapKept.run_getObj_map hb, Result.andThen, goInt]
end
end Go.Proofs.Ytjianfhodjapgaa
namespace Go.Proofs.Ytjianfhodjapgaa
open Go.RowKit
set_option linter.unusedVariables false
set_option linter.unusedSimpArgs false
/-- A block of whatever kind is put anew. -/
theorem Mem.updO {X : Cx} {l l' : Blks} {w : World} {n : Nat} {x y : Array Value × TypeId} (h : Mem X l w) (ha : At l n x y l') : Mem X l' { w with heap := w.heap.setIfInBounds n (toObj y) } := by
  have hg := h.cls.now n x.1 x.2 (ha.now h.nd)
  have hlt := blk_lt hg
  have hoth : ∀ k, k ≠ n → (w.heap.setIfInBounds n (toObj y))[k]? = w.heap[k]? := fun k hk => by simp [Ne.symm hk]
  refine ⟨by rw [ha.keys]; exact h.nd, ⟨h.cls.os, h.cls.tape, h.cls.output, by simpa using h.cls.size, fun k hk hm => ?_, fun k d u hm => ?_⟩, fun k hk => h.fresh k (by rw [← ha.keys]; exact hk)⟩
  · rw [hoth k (fun e => hm (by subst e; exact h.fresh k ha.mem hk))]
    exact h.cls.old k hk hm
  · rw [ha.put h.nd k] at hm
    split at hm
    · rename_i he; cases hm; subst he; simp [hlt]
    · rename_i hne
      rw [hoth k hne]; exact h.cls.now k d u hm
theorem Mem.map {X : Cx} {l l' : Blks} {w : World} {b clock : Nat} {m : List Ent} {y : Array Value × TypeId} (h : Mem X l w) (ha : At l b (mapB m clock) y l') : w.heap[b]? = some (.map (m.map entE).toArray clock) :=
  (h.cls.now b _ _ (ha.now h.nd)).trans (congrArg some (toObj_map m clock))
section
variable {X : Cx} {s : Slots} {l : Blks} {o : Oper} {v : Value} {Q : Post} {ops : Array Oper} {r : List Oper}
/-- An operation that gives a value and may turn blocks. -/
theorem wl_obj {l' : Blks} {s' : Slots} {v : Value} (hg : gd s ops o = some true) (hd : dOk X.N o.dst = true) (hv : ∀ a w, Env X.N s a → Mem X l w → ∃ w', (execOp a.eval o).run X.P w = .ok (.value v) w' ∧ Mem X l' w') (h : Wl X ops Q r s' l') (hs' : sputO s o.dst v = s') : Wl X ops Q (o :: r) s l := fun a w hs => by
  subst hs'
  have hw := gd_wanted hs.env hg
  unfold wpList
  rw [if_pos hw]
  refine .inl ?_
  unfold Oper.wp
  obtain ⟨w', h1, h2⟩ := hv a w hs.env hs.mem
  rw [h1]
  exact h _ _ ⟨hs.env.put hd _, h2⟩
theorem rd_lookup {x y : Operand} {mt kt et b clock : Nat} {m : List Ent} {k : Int} {z : Value} (ho : o.op = .lookup mt x y true) (hx : val s x = some (.map (some b))) (hy : val s y = some (.int .i64 k)) [ht : UT X.P mt (.map kt et)] [hd : UT X.P kt (.int .i64)] [hz : ZR X.P et z]
    (ha : At l b (mapB m clock) (mapB m clock) l := by repeat (first | exact At.here | apply At.there)) : RdV X s l o (.tuple #[(mget m k).getD z, .bool (mget m k).isSome]) := fun a w he hm => by
  simp only [execOp, ho, he.eval hx, he.eval hy, Sem.run_bind, run_lookup_m ht.out hd.out (hz.run w) (hm.map ha), Result.andThen_ok, Sem.run_pure]
theorem rd_lookupT {x y : Operand} {mt kt et b clock : Nat} {m : List Ent} {k : Int} {z u : Value} (ho : o.op = .lookup mt x y true) (hx : val s x = some (.map (some b))) (hy : val s y = some (.int .i64 k)) [ht : UT X.P mt (.map kt et)] [hd : UT X.P kt (.int .i64)] [hz : ZR X.P et z]
    (ha : At l b (mapB m clock) (mapB m clock) l := by repeat (first | exact At.here | apply At.there)) (hu : mget m k = some u := by with_reducible assumption) : RdV X s l o (.tuple #[u, .bool true]) := by
  have h := rd_lookup (X := X) (l := l) (z := z) ho hx hy ha
  rw [hu] at h
  exact h
theorem rd_lookupF {x y : Operand} {mt kt et b clock : Nat} {m : List Ent} {k : Int} {z : Value} (ho : o.op = .lookup mt x y true) (hx : val s x = some (.map (some b))) (hy : val s y = some (.int .i64 k)) [ht : UT X.P mt (.map kt et)] [hd : UT X.P kt (.int .i64)] [hz : ZR X.P et z]
    (ha : At l b (mapB m clock) (mapB m clock) l := by repeat (first | exact At.here | apply At.there)) (hu : mget m k = none := by with_reducible assumption) : RdV X s l o (.tuple #[z, .bool false]) := by
  have h := rd_lookup (X := X) (l := l) (z := z) ho hx hy ha
  rw [hu] at h
  exact h
theorem rd_lenM {c : Call} {x : Operand} {mt kt et b clock : Nat} {m : List Ent} (ho : o.op = .call c) (hc : c.callee = .builtin .len) (hr : c.args = #[x]) (ht : c.argTypes = #[mt]) (hx : val s x = some (.map (some b))) [hu : UT X.P mt (.map kt et)]
    (ha : At l b (mapB m clock) (mapB m clock) l := by repeat (first | exact At.here | apply At.there)) : RdV X s l o (.int .i64 (m.length : Int)) := fun a w he hm => by
  unfold execOp
  simp only [ho, resolve, hc, hr, ht, invoke, builtin, Sem.run_bind, Sem.run_pure, Result.andThen_ok, List.map_toArray, List.map_cons, List.map_nil, he.eval hx, run_len_m hu.out (hm.map ha)]
theorem sv_mset {x y u : Operand} {mt kt et b clock : Nat} {m : List Ent} {k : Int} {l' : Blks} (ho : o.op = .mapUpdate mt x y u) (hx : val s x = some (.map (some b))) (hy : val s y = some (.int .i64 k)) (hu : val s u = some v) [ht : UT X.P mt (.map kt et)] [hd : UT X.P kt (.int .i64)]
    (ha : At l b (mapB m clock) (mapB (mset m k v clock).1 (mset m k v clock).2) l' := by repeat (first | exact At.here | apply At.there)) : Sv X s l o l' := fun a w he hm => by
  have h := hm.updO ha
  rw [toObj_map] at h
  refine ⟨_, ?_, h⟩
  simp only [execOp, ho, he.eval hx, he.eval hy, he.eval hu, Sem.run_bind, run_update_m ht.out hd.out (hm.map ha), Result.andThen_ok, Sem.run_pure]
theorem wl_mset {x y u : Operand} {mt kt et b clock : Nat} {m : List Ent} {k : Int} {l' : Blks} {s' : Slots} (hg : gd s ops o = some true) (hd : dOk X.N o.dst = true) (ho : o.op = .mapUpdate mt x y u) (hx : val s x = some (.map (some b))) (hy : val s y = some (.int .i64 k)) (hu : val s u = some v) [ht : UT X.P mt (.map kt et)] [hk : UT X.P kt (.int .i64)] (h : Wl X ops Q r s' l')
    (ha : At l b (mapB m clock) (mapB (mset m k v clock).1 (mset m k v clock).2) l' := by repeat (first | exact At.here | apply At.there)) (hs' : sputO s o.dst undef = s' := by (try dsimp only [sputO, sput, Nat.reduceBEq, cond_true, cond_false, beq_self_eq_true]); first | done | exact rfl) : Wl X ops Q (o :: r) s l :=
  wl_store hg hd (sv_mset ho hx hy hu ha) h hs'
theorem wl_mdel {x y : Operand} {mt kt et b clock : Nat} {m : List Ent} {k : Int} {l' : Blks} {s' : Slots} (hg : gd s ops o = some true) (hd : dOk X.N o.dst = true) (ho : o.op = .call { callee := .builtin .delete, args := #[x, y], argTypes := #[mt, kt] }) (hx : val s x = some (.map (some b))) (hy : val s y = some (.int .i64 k)) [ht : UT X.P mt (.map kt et)] [hk : UT X.P kt (.int .i64)] (h : Wl X ops Q r s' l')
    (ha : At l b (mapB m clock) (mapB (mdel m k) clock) l' := by repeat (first | exact At.here | apply At.there)) (hs' : sputO s o.dst (.tuple #[]) = s' := by (try dsimp only [sputO, sput, Nat.reduceBEq, cond_true, cond_false, beq_self_eq_true]); first | done | exact rfl) : Wl X ops Q (o :: r) s l :=
  wl_obj hg hd (fun a w he hm => by
    have h := hm.updO ha
    rw [toObj_map] at h
    refine ⟨_, ?_, h⟩
    unfold execOp
    simp only [ho, resolve, invoke, builtin, Sem.run_bind, Sem.run_pure, Result.andThen_ok, List.map_toArray, List.map_cons, List.map_nil, he.eval hx, he.eval hy, run_delete_m ht.out hk.out (hm.map ha)]) h hs'
theorem wl_mclear {x : Operand} {mt kt et b clock : Nat} {m : List Ent} {l' : Blks} {s' : Slots} (hg : gd s ops o = some true) (hd : dOk X.N o.dst = true) (ho : o.op = .call { callee := .builtin .clear, args := #[x], argTypes := #[mt] }) (hx : val s x = some (.map (some b))) [ht : UT X.P mt (.map kt et)] (h : Wl X ops Q r s' l')
    (ha : At l b (mapB m clock) (mapB [] clock) l' := by repeat (first | exact At.here | apply At.there)) (hs' : sputO s o.dst (.tuple #[]) = s' := by (try dsimp only [sputO, sput, Nat.reduceBEq, cond_true, cond_false, beq_self_eq_true]); first | done | exact rfl) : Wl X ops Q (o :: r) s l :=
  wl_obj hg hd (fun a w he hm => by
    have h := hm.updO ha
    rw [toObj_map] at h
    refine ⟨_, ?_, h⟩
    unfold execOp
    simp only [ho, resolve, invoke, builtin, Sem.run_bind, Sem.run_pure, Result.andThen_ok, List.map_toArray, List.map_cons, List.map_nil, he.eval hx, run_clear_m ht.out (hm.map ha)]) h hs'
theorem wl_mmap {mt : Nat} {s' : Nat → Slots} (hg : gd s ops o = some true) (hd : dOk X.N o.dst = true) (ho : o.op = .makeMap mt none)
    (h : ∀ n, X.W.heap.size ≤ n → Wl X ops Q r (s' n) ((n, mapB [] 0) :: l)) (hs' : ∀ n, sputO s o.dst (.map (some n)) = s' n := by intro _; (try dsimp only [sputO, sput, Nat.reduceBEq, cond_true, cond_false, beq_self_eq_true]); first | done | exact rfl) : Wl X ops Q (o :: r) s l := fun a w hs => by
  obtain rfl : (fun n => sputO s o.dst (.map (some n))) = s' := funext hs'
  have hw := gd_wanted hs.env hg
  unfold wpList
  rw [if_pos hw]
  refine .inl ?_
  unfold Oper.wp
  have hr : (execOp a.eval o).run X.P w = .ok (.value (.map (some w.heap.size))) (w.alloc (.map #[] 0)) := by
    simp [execOp, ho, Instr.makeMap, Sem.run_bind, go_sem]
  rw [hr]
  have h1 := hs.mem.newO (mapB [] 0)
  rw [toObj_map] at h1
  exact h w.heap.size hs.mem.cls.size _ _ ⟨hs.env.put hd _, h1⟩
/-- Stamps below the clock, each once; keys each once. -/
structure MOk (m : List Ent) (clock : Nat) : Prop where
  lt : ∀ x ∈ m, x.2.2 < clock
  nd : (m.map (·.2.2)).Nodup
  keys : (m.map (·.1)).Nodup
theorem wl_range {x : Operand} {mt kt et b clock : Nat} {m : List Ent} {s' : Nat → Slots} (hg : gd s ops o = some true) (hd : dOk X.N o.dst = true) (ho : o.op = .range mt x) (hx : val s x = some (.map (some b))) [ht : UT X.P mt (.map kt et)]
    (h : ∀ n, X.W.heap.size ≤ n → Wl X ops Q r (s' n) ((n, iterB b clock [] clock) :: l)) (ha : At l b (mapB m clock) (mapB m clock) l := by repeat (first | exact At.here | apply At.there))
    (hs' : ∀ n, sputO s o.dst (ptr n) = s' n := by intro _; (try dsimp only [sputO, sput, Nat.reduceBEq, cond_true, cond_false, beq_self_eq_true]); first | done | exact rfl) : Wl X ops Q (o :: r) s l := fun a w hs => by
  obtain rfl : (fun n => sputO s o.dst (ptr n)) = s' := funext hs'
  have hw := gd_wanted hs.env hg
  unfold wpList
  rw [if_pos hw]
  refine .inl ?_
  unfold Oper.wp
  have hb := hs.mem.map ha
  have hr : (execOp a.eval o).run X.P w = .ok (.value (ptr w.heap.size)) (w.alloc (.mapIter (some b) clock #[] clock)) := by
    have h0 : (Instr.range mt (.map (some b))).run X.P w = .ok (ptr w.heap.size) (w.alloc (.mapIter (some b) clock #[] clock)) := by
      simp [Instr.range, Sem.run_bind, run_underlying ht.out, MapKept.run_getObj_map hb, Result.andThen, go_sem]
    simp only [execOp, ho, hs.env.eval hx, Sem.run_bind, h0, Result.andThen_ok, Sem.run_pure]
  rw [hr]
  have h1 := hs.mem.newO (iterB b clock [] clock)
  rw [toObj_iter] at h1
  exact h w.heap.size hs.mem.cls.size _ _ ⟨hs.env.put hd _, h1⟩
theorem Mem.iter {X : Cx} {l l' : Blks} {w : World} {n b since step : Nat} {seen : List Nat} {y : Array Value × TypeId} (h : Mem X l w) (ha : At l n (iterB b since seen step) y l') : w.heap[n]? = some (.mapIter (some b) since seen.toArray step) :=
  (h.cls.now n _ _ (ha.now h.nd)).trans (congrArg some (toObj_iter b since seen step))
theorem wl_next {x : Operand} {b n clock : Nat} {m : List Ent} {seen : List Nat} {l' : Nat → Blks} {s0 : Slots} {s1 : Ent → Slots} (hg : gd s ops o = some true) (hd : dOk X.N o.dst = true) (ho : o.op = .next x false) (hx : val s x = some (ptr n)) (hm : MOk m clock)
    (h0 : (∀ y ∈ m, y.2.2 ∈ seen) → Wl X ops Q r s0 l) (h1 : ∀ y, y ∈ m → y.2.2 ∉ seen → Wl X ops Q r (s1 y) (l' y.2.2))
    (hb : At l b (mapB m clock) (mapB m clock) l := by repeat (first | exact At.here | apply At.there)) (ha : ∀ c, At l n (iterB b clock seen clock) (iterB b clock (seen ++ [c]) clock) (l' c) := by intro _; repeat (first | exact At.here | apply At.there))
    (hs0 : sputO s o.dst (.tuple #[.bool false]) = s0 := by (try dsimp only [sputO, sput, Nat.reduceBEq, cond_true, cond_false, beq_self_eq_true]); first | done | exact rfl)
    (hs1 : ∀ y, sputO s o.dst (.tuple #[.bool true, .int .i64 y.1, y.2.1]) = s1 y := by intro _; (try dsimp only [sputO, sput, Nat.reduceBEq, cond_true, cond_false, beq_self_eq_true]); first | done | exact rfl) : Wl X ops Q (o :: r) s l := fun a w hs => by
  obtain rfl : (fun y => sputO s o.dst (.tuple #[.bool true, .int .i64 y.1, y.2.1])) = s1 := funext hs1
  subst hs0
  have hw := gd_wanted hs.env hg
  unfold wpList
  rw [if_pos hw]
  refine .inl ?_
  unfold Oper.wp
  have hbm := hs.mem.map hb
  have hit := hs.mem.iter (ha 0)
  have hlo : ∀ e ∈ (leftOf (m.map entE).toArray seen.toArray).toList, ∃ y ∈ m, y.2.2 ∉ seen ∧ e = entE y := fun e he => by
    unfold leftOf at he
    simp only [Array.toList_filter, List.mem_filter, List.mem_map] at he
    obtain ⟨⟨y, hy, rfl⟩, hn⟩ := he
    exact ⟨y, hy, by simpa [entE] using hn, rfl⟩
  rcases run_next_at (P := X.P) w o.type n b clock clock seen.toArray (m.map entE).toArray clock hit hbm (fun e he => by simp only [List.mem_map] at he; obtain ⟨y, hy, rfl⟩ := he; exact hm.lt y hy) (Nat.le_refl _) with ⟨h2, h3⟩ | ⟨e, h2, w1, h3, h4⟩
  · have hr : (execOp a.eval o).run X.P w = .ok (.value (.tuple #[.bool false])) w := by
      simp only [execOp, ho, hs.env.eval hx, Sem.run_bind, ptr, h3, Result.andThen_ok, Sem.run_pure]
    rw [hr]
    refine h0 (fun y hy => ?_) _ _ ⟨hs.env.put hd _, hs.mem⟩
    have h5 : leftOf (m.map entE).toArray seen.toArray = #[] := Array.eq_empty_of_size_eq_zero h2
    unfold leftOf at h5
    rw [Array.filter_eq_empty_iff] at h5
    have := h5 (entE y) (by simp; exact ⟨_, _, _, hy, rfl⟩)
    simpa [entE] using this
  · obtain ⟨y, hy, hn, rfl⟩ := hlo e h2
    have hr : (execOp a.eval o).run X.P w = .ok (.value (.tuple #[.bool true, .int .i64 y.1, y.2.1])) (ChangeMaps.setBlock w1 n (.mapIter (some b) clock (seen ++ [y.2.2]).toArray clock)) := by
      simp only [execOp, ho, hs.env.eval hx, Sem.run_bind, ptr, h4, Result.andThen_ok, Sem.run_pure]
      simp [entE]
    rw [hr]
    have hm1 : Mem X l w1 := by
      rcases h3 with rfl | rfl
      · exact hs.mem
      · exact hs.mem.drew
    have h6 := hm1.updO (ha y.2.2)
    rw [toObj_iter] at h6
    exact h1 y hy hn _ _ ⟨hs.env.put hd _, h6⟩
theorem rd_entry {x : Operand} {b n since clock c : Nat} {m : List Ent} {seen : List Nat} {y : Ent} (ho : o.op = .entry x) (hx : val s x = some (ptr n))
    (hb : At l b (mapB m clock) (mapB m clock) l := by repeat (first | exact At.here | apply At.there)) (ha : At l n (iterB b since (seen ++ [y.2.2]) clock) (iterB b since (seen ++ [y.2.2]) clock) l := by repeat (first | exact At.here | apply At.there)) (hm : MOk m clock := by with_reducible assumption) (hy : y ∈ m := by with_reducible assumption) : RdV X s l o (.tuple #[.int .i64 y.1, y.2.1]) := fun a w he hmem => by
  have hit := hmem.iter ha
  have h1 := run_entry_at (P := X.P) w n b since seen.toArray (m.map entE).toArray clock (entE y) (by rw [hit]; simp [entE]) (hmem.map hb) (by simp; exact ⟨_, _, _, hy, rfl⟩) (by
    have := hm.nd
    simpa [entE, Function.comp_def] using this)
  simp only [execOp, ho, he.eval hx, Sem.run_bind, ptr, h1, Result.andThen_ok, Sem.run_pure]
  rfl
theorem rd_entryK {x : Operand} {b n since clock c : Nat} {m : List Ent} {seen : List Nat} {k : Int} {u : Value} (ho : o.op = .entry x) (hx : val s x = some (ptr n))
    (hb : At l b (mapB m clock) (mapB m clock) l := by repeat (first | exact At.here | apply At.there)) (ha : At l n (iterB b since (seen ++ [c]) clock) (iterB b since (seen ++ [c]) clock) l := by repeat (first | exact At.here | apply At.there)) (hm : MOk m clock := by with_reducible assumption) (hy : (k, u, c) ∈ m := by with_reducible assumption) : RdV X s l o (.tuple #[.int .i64 k, u]) :=
  rd_entry (c := 0) (y := (k, u, c)) ho hx hb ha hm hy
end
section
variable {X : Cx} {s : Slots} {l : Blks} {Q : Post} {ops : Array Oper} {r : List Oper} {d : Option Tmp} {ty : TypeId} {p : String} {af : Array Edge} {g : Option (Nat × Bool)}
theorem sel_lookup {t : Nat} {x y : Operand} {b : Bool} (h : Wl X ops Q (⟨d, .lookup t x y b, ty, p, af, g⟩ :: r) s l) : Wl X ops Q (⟨d, .lookup t x y b, ty, p, af, g⟩ :: r) s l := h
theorem sel_mapUpdate {t : Nat} {x y z : Operand} (h : Wl X ops Q (⟨d, .mapUpdate t x y z, ty, p, af, g⟩ :: r) s l) : Wl X ops Q (⟨d, .mapUpdate t x y z, ty, p, af, g⟩ :: r) s l := h
theorem sel_makeMap {t : Nat} {x : Option Operand} (h : Wl X ops Q (⟨d, .makeMap t x, ty, p, af, g⟩ :: r) s l) : Wl X ops Q (⟨d, .makeMap t x, ty, p, af, g⟩ :: r) s l := h
theorem sel_range {t : Nat} {x : Operand} (h : Wl X ops Q (⟨d, .range t x, ty, p, af, g⟩ :: r) s l) : Wl X ops Q (⟨d, .range t x, ty, p, af, g⟩ :: r) s l := h
theorem sel_next {x : Operand} {b : Bool} (h : Wl X ops Q (⟨d, .next x b, ty, p, af, g⟩ :: r) s l) : Wl X ops Q (⟨d, .next x b, ty, p, af, g⟩ :: r) s l := h
theorem sel_entry {x : Operand} (h : Wl X ops Q (⟨d, .entry x, ty, p, af, g⟩ :: r) s l) : Wl X ops Q (⟨d, .entry x, ty, p, af, g⟩ :: r) s l := h
end
end Go.Proofs.Ytjianfhodjapgaa
namespace Go.Proofs.Ytjianfhodjapgaa
/-- What stands ahead of a body of n bytes. -/
def headL (tag n : Nat) : List Nat := if n < 128 then [tag, n] else if n < 256 then [tag, 129, n] else [tag, 130, n / 256 % 256, n % 256]
def wr1 (x : Nat × List Nat) : List Nat := headL x.1 x.2.length ++ x.2
def wrL (l : List (Nat × List Nat)) : List Nat := (l.map wr1).flatten
/-- May that be written? -/
def fitsL (l : List (Nat × List Nat)) : Prop := l.length ≤ 200 ∧ ∀ x ∈ l, x.2.length ≤ 4096
theorem wrL_app (a b : List (Nat × List Nat)) : wrL (a ++ b) = wrL a ++ wrL b := by simp [wrL]
theorem wrL_nil : wrL [] = [] := rfl
theorem wrL_one (x : Nat × List Nat) : wrL [x] = wr1 x := by simp [wrL]
theorem wrL_snoc {l : List (Nat × List Nat)} {i : Nat} {x : Nat × List Nat} (h : l[i]? = some x) : wrL (l.take (i + 1)) = wrL (l.take i) ++ wr1 x := by
  rw [List.take_add_one, h, wrL_app]
  simp [wrL_one]
theorem headL_len (t n : Nat) : (headL t n).length ≤ 4 ∧ 2 ≤ (headL t n).length := by
  unfold headL; split <;> (try split) <;> simp
theorem wr1_len (x : Nat × List Nat) : (wr1 x).length ≤ x.2.length + 4 := by
  have := (headL_len x.1 x.2.length).1
  simp only [wr1, List.length_append]; omega
theorem wrL_len : ∀ {l : List (Nat × List Nat)}, (∀ x ∈ l, x.2.length ≤ 4096) → (wrL l).length ≤ 4100 * l.length
  | [], _ => by simp [wrL]
  | x :: r, h => by
    have h1 := wr1_len x
    have h2 := h x (by simp)
    have h3 := wrL_len (l := r) fun y hy => h y (by simp [hy])
    rw [show x :: r = [x] ++ r from rfl, wrL_app, List.length_append, wrL_one]
    simp only [List.length_append, List.length_cons, List.length_nil]
    omega
/-- Of two items' texts none is the beginning of the other, unless they are one. -/
theorem wr1_front {x y : Nat × List Nat} (hx : x.2.length ≤ 4096) (hy : y.2.length ≤ 4096) {s t : List Nat} (h : wr1 x ++ s = wr1 y ++ t) : x = y ∧ s = t := by
  obtain ⟨a, p⟩ := x
  obtain ⟨b, q⟩ := y
  simp only [wr1] at h hx hy
  have key : a = b ∧ p.length = q.length ∧ p ++ s = q ++ t := by
    generalize hn : p.length = n at *
    generalize hm : q.length = m at *
    by_cases n1 : n < 128 <;> by_cases n2 : n < 256 <;> by_cases m1 : m < 128 <;> by_cases m2 : m < 256 <;> simp [headL, n1, n2, m1, m2] at h <;>
      first | exact ⟨h.1, h.2.1, h.2.2⟩ | exact ⟨h.1, by omega, h.2.2.2⟩ | (exfalso; omega)
  obtain ⟨rfl, hl, h3⟩ := key
  obtain ⟨rfl, h4⟩ := List.append_inj h3 hl
  exact ⟨rfl, h4⟩
end Go.Proofs.Ytjianfhodjapgaa
namespace Go.Proofs.Ytjianfhodjapgaa
open Go.RowKit
set_option linter.unusedVariables false
/-- An item: its tag, its body's slice, the bytes. -/
abbrev It := Nat × Value × List Nat
def It.p (x : It) : Nat × List Nat := (x.1, x.2.2)
def itC (x : It) : List Value := [.int .u8 ((x.1 : Nat) : Int), x.2.1]
def itsC (l : List It) : List Value := (l.map itC).flatten
theorem itsC_len : ∀ l : List It, (itsC l).length = l.length * 2
  | [] => rfl
  | x :: r => by
    have := itsC_len r
    unfold itsC at this ⊢
    simp only [List.map_cons, List.flatten_cons, List.length_append, this, List.length_cons, itC, List.length_nil]; omega
theorem itsC_app (a b : List It) : itsC (a ++ b) = itsC a ++ itsC b := by simp [itsC]
theorem itsC_get : ∀ {l : List It} {i : Nat} {x : It}, l[i]? = some x → ((itsC l).drop (i * 2)).take 2 = [.int .u8 ((x.1 : Nat) : Int), x.2.1]
  | [], _, _, h => by simp at h
  | y :: r, 0, x, h => by
    simp only [List.getElem?_cons_zero, Option.some.injEq] at h
    subst h
    simp [itsC, itC]
  | y :: r, i + 1, x, h => by
    rw [List.getElem?_cons_succ] at h
    have ih := itsC_get h
    rw [show (i + 1) * 2 = 2 + i * 2 by omega, ← List.drop_drop]
    have : (itsC (y :: r)).drop 2 = itsC r := by simp [itsC, itC]
    rw [this]
    exact ih
/-- A slice of items in a world. -/
structure Its (w : World) (v : Value) (l : List It) : Prop where
  cs : Cs w v l.length (itsC l)
  tag : ∀ x ∈ l, x.1 < 256
  body : ∀ x ∈ l, Cb w x.2.1 x.2.2.length x.2.2
theorem Its.below {w w' : World} {v : Value} {l : List It} (h : Its w v l) (hb : Below w.heap.size w w') : Its w' v l := ⟨h.cs.below hb, h.tag, fun x hx => (h.body x hx).below hb⟩
end Go.Proofs.Ytjianfhodjapgaa
namespace Go.Proofs.Ytjianfhodjapgaa
open Go.RowKit
set_option linter.unusedVariables false
set_option maxRecDepth 100000
/-- Items, the same in all worlds of which Φ is told. -/
class IsF (Φ : outParam (World → Prop)) (v : Value) (l : outParam (List It)) : Prop where
  cs : CsF Φ v l.length (itsC l)
  out : ∀ w, Φ w → Its w v l
theorem Its.old {W : World} {v : Value} {l : List It} (h : Its W v l) : IsF (Old W []) v l := ⟨h.cs.old, fun w ho =>
  ⟨h.cs.old.out w ho, h.tag, fun x hx => ⟨(h.body x hx).cs.old.out w ho, (h.body x hx).ok⟩⟩⟩
theorem IsF.csf {Φ : World → Prop} {v : Value} {l : List It} (h : IsF Φ v l) : CsF Φ v l.length (itsC l) := h.cs
class VwI (X : Cx) (l : Blks) (v : Value) (its : outParam (List It)) : Prop where
  out : ∀ w, Mem X l w → Its w v its
instance {X : Cx} {l : Blks} {Φ : World → Prop} {v : Value} {its : List It} [h : IsF Φ v its] [h' : Hold X l Φ] : VwI X l v its := ⟨fun w hm => h.out w (h'.out w hm)⟩
/-- The bodies of items, in blocks of the walk's own. -/
def BodI (its : List It) (ob : Blks) : Prop := ∀ x ∈ its, x.1 < 256 ∧ (BL x.2.2.length x.2.2 ∧ Ln x.2.1 x.2.2.length) ∧ ∀ w, Hd ob w → Cs w x.2.1 x.2.2.length (bl x.2.2)
theorem BodI.nil : BodI [] [] := fun x hx => by cases hx
theorem Hd.left {a b : Blks} {w : World} (h : Hd (a ++ b) w) : Hd a w := fun p hp => h p (List.mem_append_left _ hp)
theorem Hd.right {a b : Blks} {w : World} (h : Hd (a ++ b) w) : Hd b w := fun p hp => h p (List.mem_append_right _ hp)
theorem BodI.app {l m : List It} {a b : Blks} (h : BodI l a) (h' : BodI m b) : BodI (l ++ m) (a ++ b) := fun x hx => by
  rcases List.mem_append.1 hx with hx | hx
  · obtain ⟨h1, h2, h3⟩ := h x hx; exact ⟨h1, h2, fun w hw => h3 w hw.left⟩
  · obtain ⟨h1, h2, h3⟩ := h' x hx; exact ⟨h1, h2, fun w hw => h3 w hw.right⟩
theorem BodI.one {t : Nat} {v : Value} {e : Nat} {q : List Nat} {oa : Blks} (h : OwnB e v q.length q oa) (ht : t < 256) : BodI [(t, v, q)] oa := fun x hx => by
  simp only [List.mem_singleton] at hx
  subst hx
  exact ⟨ht, ⟨h.ok, h.own.ln⟩, fun w hw => h.own.cs.out w hw⟩
/-- A slice of such items. -/
structure OwnI (e : Nat) (v : Value) (its : List It) (oa : Blks) : Prop where
  out : ∃ oo ob, oa = oo ++ ob ∧ OwnL e 2 v its.length (itsC its) oo ∧ BodI its ob
theorem OwnI.isf {e : Nat} {v : Value} {its : List It} {oa : Blks} (h : OwnI e v its oa) : IsF (Hd oa) v its := by
  obtain ⟨oo, ob, rfl, h1, h2⟩ := h.out
  refine ⟨⟨h1.ln, fun w hw => h1.cs.out w hw.left⟩, fun w hw => ⟨h1.cs.out w hw.left, fun x hx => (h2 x hx).1, fun x hx => ⟨(h2 x hx).2.2 w hw.right, (h2 x hx).2.1.1⟩⟩⟩
end Go.Proofs.Ytjianfhodjapgaa
namespace Go.Proofs.Ytjianfhodjapgaa
set_option linter.unusedVariables false
/-- A kind, and the bytes of its value. -/
abbrev Ab := Int × List Nat
def fitsB (x : Ab) : Bool :=
  if x.1 = 1 then decide (x.2.length = 1 ∧ 1 ≤ x.2.getD 0 0 ∧ x.2.getD 0 0 ≤ 4)
  else if x.1 = 2 ∨ x.1 = 3 then decide (x.2.length ≤ 32)
  else if x.1 = 4 then decide (x.2.length ≤ 64)
  else decide (x.2.length = 1 ∧ x.2.getD 0 0 ≤ 1)
/-- What is told of the first that is wrong; s: the kinds that were there. -/
def chkF : List Ab → List Int → Int
  | [], _ => 0
  | x :: r, s => if x.1 < 1 ∨ x.1 > 18 then 13 else if fitsB x = false then 4 else if x.1 ∈ s then 1 else chkF r (x.1 :: s)
def chkA (l : List Ab) : Int := if l.length > 24 then 2 else chkF l []
structure AbOk (l : List Ab) : Prop where
  len : l.length ≤ 24
  each : ∀ x ∈ l, 1 ≤ x.1 ∧ x.1 ≤ 18 ∧ fitsB x = true
  nd : (l.map (·.1)).Nodup
theorem chkF_zero : ∀ (l : List Ab) (s : List Int), chkF l s = 0 ↔ (∀ x ∈ l, 1 ≤ x.1 ∧ x.1 ≤ 18 ∧ fitsB x = true) ∧ (l.map (·.1)).Nodup ∧ ∀ x ∈ l, x.1 ∉ s
  | [], s => by simp [chkF]
  | x :: r, s => by
    unfold chkF
    by_cases h1 : x.1 < 1 ∨ x.1 > 18
    · rw [if_pos h1]
      refine ⟨fun h => absurd h (by decide), fun h => ?_⟩
      have := h.1 x (by simp)
      omega
    rw [if_neg h1]
    by_cases h2 : fitsB x = false
    · rw [if_pos h2]
      refine ⟨fun h => absurd h (by decide), fun h => ?_⟩
      have := (h.1 x (by simp)).2.2
      rw [h2] at this; cases this
    rw [if_neg h2]
    by_cases h3 : x.1 ∈ s
    · rw [if_pos h3]
      exact ⟨fun h => absurd h (by decide), fun h => absurd h3 (h.2.2 x (by simp))⟩
    rw [if_neg h3, chkF_zero r (x.1 :: s)]
    have h2' : fitsB x = true := by simpa using h2
    constructor
    · rintro ⟨h4, h5, h6⟩
      refine ⟨fun y hy => ?_, ?_, fun y hy => ?_⟩
      · rcases List.mem_cons.1 hy with rfl | hy
        · exact ⟨by omega, by omega, h2'⟩
        · exact h4 y hy
      · rw [List.map_cons, List.nodup_cons]
        refine ⟨fun hm => ?_, h5⟩
        obtain ⟨y, hy, he⟩ := List.mem_map.1 hm
        exact h6 y hy (by rw [he]; exact List.mem_cons_self)
      · rcases List.mem_cons.1 hy with rfl | hy
        · exact h3
        · exact fun hm => h6 y hy (List.mem_cons_of_mem _ hm)
    · rintro ⟨h4, h5, h6⟩
      rw [List.map_cons, List.nodup_cons] at h5
      refine ⟨fun y hy => h4 y (List.mem_cons_of_mem _ hy), h5.2, fun y hy hm => ?_⟩
      rcases List.mem_cons.1 hm with he | hm
      · exact h5.1 (by rw [← he]; exact List.mem_map.2 ⟨y, hy, rfl⟩)
      · exact h6 y (List.mem_cons_of_mem _ hy) hm
theorem chkA_zero {l : List Ab} : chkA l = 0 ↔ AbOk l := by
  unfold chkA
  by_cases h : l.length > 24
  · rw [if_pos h]
    exact ⟨fun h' => absurd h' (by decide), fun h' => absurd h'.len (by omega)⟩
  · rw [if_neg h, chkF_zero]
    exact ⟨fun ⟨h1, h2, _⟩ => ⟨by omega, h1, h2⟩, fun ⟨_, h1, h2⟩ => ⟨h1, h2, fun x _ => by simp⟩⟩
/-! ### Rising -/
def Rises (l : List Ab) : Prop := l.Pairwise fun a b => a.1 < b.1
/-- What rises and has the same is the same. -/
theorem rises_only : ∀ {l m : List Ab}, Rises l → Rises m → l.Perm m → l = m
  | [], m, _, _, h => (List.nil_perm.1 h).symm
  | a :: l, [], _, _, h => absurd h.length_eq (by simp)
  | a :: l, b :: m, hl, hm, h => by
    have hl' := List.pairwise_cons.1 hl
    have hm' := List.pairwise_cons.1 hm
    have e : a = b := by
      have h1 : a ∈ b :: m := h.mem_iff.1 List.mem_cons_self
      have h2 : b ∈ a :: l := h.mem_iff.2 List.mem_cons_self
      rcases List.mem_cons.1 h1 with h1 | h1
      · exact h1
      rcases List.mem_cons.1 h2 with h2 | h2
      · exact h2.symm
      have := hm'.1 a h1
      have := hl'.1 b h2
      omega
    subst e
    rw [rises_only hl'.2 hm'.2 (List.Perm.cons_inv h)]
theorem Rises.nodup {l : List Ab} (h : Rises l) : (l.map (·.1)).Nodup := by
  rw [List.nodup_iff_pairwise_ne]
  refine List.Pairwise.map _ (R := fun a b : Ab => a.1 < b.1) (fun a b hab => ?_) h
  omega
end Go.Proofs.Ytjianfhodjapgaa
namespace Go.Proofs.Ytjianfhodjapgaa
open Go.RowKit
set_option linter.unusedVariables false
set_option linter.unusedSimpArgs false
section
variable {X : Cx} {s : Slots} {l : Blks} {o : Oper} {v : Value}
/-- A function's value with what it has caught. -/
theorem rd_mkfun {f : Nat} {cs : Array Operand} {us : List Value} (ho : o.op = .makeFunc (.func f) #[] cs) (hu : vals s cs.toList = some us) : RdV X s l o (.func (.func f) #[] us.toArray) := rd_val fun a w he hm => by
  have h := he.vals hu
  have h2 : cs.map a.eval = us.toArray := by rw [← h]; simp [← Array.toList_map]
  have h3 : Array.map a.eval (#[] : Array Operand) = #[] := by simp
  simp only [execOp, ho, Instr.makeFunc, h2, h3, Sem.run_bind, Sem.run_pure, Result.andThen_ok]
/-- A call of such a value. -/
theorem rd_callc {c : Call} {f : Nat} {y : Operand} {us vs : List Value} (ho : o.op = .call c) (hc : c.callee = .value y) (hy : val s y = some (.func (.func f) #[] us.toArray)) (ha : vals s c.args.toList = some vs)
    (h : ∀ w, Mem X l w → Calls X.P f (vs ++ us).toArray w (Ret v w)) (hk : callOk X.P f = true := by kernel_rfl) : Rd X s l o v := fun a w he hm => by
  have h1 := he.vals ha
  have h2 : c.args.map a.eval = vs.toArray := by rw [← h1]; simp [← Array.toList_map]
  have e : (execOp a.eval o).run X.P w = (callFunc f (vs ++ us).toArray).run X.P w := by
    simp only [execOp, ho, resolve, hc, h2, he.eval hy, Deferred.ofValue]
    simp [invoke]
  rw [e, run_enter hk]
  exact ⟨rfl, h w hm⟩
end
section
variable {X : Cx} {Q : Post} {s : Slots} {l : Blks} {ops : Array Oper} {r : List Oper} {d : Option Tmp} {ty : TypeId} {p : String} {af : Array Edge} {g : Option (Nat × Bool)}
theorem sel_makeFunc {f : Fn} {a b : Array Operand} (h : Wl X ops Q (⟨d, .makeFunc f a b, ty, p, af, g⟩ :: r) s l) : Wl X ops Q (⟨d, .makeFunc f a b, ty, p, af, g⟩ :: r) s l := h
end
end Go.Proofs.Ytjianfhodjapgaa
namespace Go.Proofs.Ytjianfhodjapgaa
open Go.RowKit Go.ChangeShapes
set_option linter.unusedVariables false
set_option linter.unusedSimpArgs false
/-- A slice of n bytes in the memory w: byte i is f i. -/
structure Sl (W : World) (p : Option Addr) (n : Nat) (f : Nat → Nat) : Prop where
  small : n < 9223372036854775808
  byte : ∀ i, f i < 256
  cell : ∀ i, i < n → ∃ b off, p = some ⟨b, off, none⟩ ∧ W.cell? ⟨b, off + i, none⟩ = some (.int .u8 ((f i : Nat) : Int))
theorem Sl.below {W w : World} {p : Option Addr} {n : Nat} {f : Nat → Nat} (h : Sl W p n f) (hb : Below W.heap.size W w) : Sl w p n f := ⟨h.small, h.byte, fun i hi => by
  obtain ⟨b, off, hp, hc⟩ := h.cell i hi
  exact ⟨b, off, hp, by rw [hb.cell (World.block_lt_of_cell? _ _ hc)]; exact hc⟩⟩
section
variable {X : Cx} {s : Slots} {l : Blks} {o : Oper} {v : Value}
/-- A cell that was there when the function began. -/
theorem ld_old {t b off : Nat} [hu : KD X.P t false] (hc : X.W.cell? ⟨b, off, none⟩ = some v) (ho : X.own = [] := by rfl) : Ld X l t b off v := fun w hm => by
  have hc' : w.cell? ⟨b, off, none⟩ = some v := by rw [(hm.below ho).cell (World.block_lt_of_cell? _ _ hc)]; exact hc
  simp [loadVar, Sem.run_bind, hu.agg, run_load, hc']
theorem rd_min {c : Call} {x y : Operand} {k k' : IntKind} {a b r : Int} (ho : o.op = .call c) (hc : c.callee = .builtin .min) (ha : c.args = #[x, y]) (hx : val s x = some (.int k a)) (hy : val s y = some (.int k' b)) (hr : (if b < a then b else a) = r := by with_reducible assumption) : RdV X s l o (.int k r) :=
  rd_val fun e w he hm => by
    subst hr
    simp only [execOp, ho, resolve, hc, ha, List.map_toArray, List.map_cons, List.map_nil, he.eval hx, he.eval hy]
    simp [invoke, builtin, Sem.run_bind, run_min_int2]
theorem rd_neqB {t yt : Nat} {x y : Operand} {a b r : Bool} (ho : o.op = .binOp .neq t x y yt) (hx : val s x = some (.bool a)) (hy : val s y = some (.bool b)) [h : UT X.P t .bool] (hr : (a != b) = r) : RdV X s l o (.bool r) :=
  rd_val fun e w he hm => by
    subst hr
    have q : (Op.equalIn 10000 t (.bool a) (.bool b)).run X.P w = .ok (a == b) w := by
      rw [show (10000 : Nat) = 9999 + 1 from rfl, Op.equalIn, Sem.run_bind, run_underlying h.out]; rfl
    simp only [execOp, ho, he.eval hx, he.eval hy, eqGuard]
    simp [run_neq w rfl q]
    cases a <;> cases b <;> rfl
/-- A call through a value. -/
theorem rd_callv {c : Call} {f : Nat} {y : Operand} {vs : List Value} (ho : o.op = .call c) (hc : c.callee = .value y) (hy : val s y = some (.func (.func f) #[] #[])) (ha : vals s c.args.toList = some vs)
    (h : ∀ w, Mem X l w → Calls X.P f vs.toArray w (Ret v w)) (hk : callOk X.P f = true := by kernel_rfl) : Rd X s l o v := fun a w he hm => by
  have h1 := he.vals ha
  have h2 : c.args.map a.eval = vs.toArray := by rw [← h1]; simp [← Array.toList_map]
  have e : (execOp a.eval o).run X.P w = (callFunc f vs.toArray).run X.P w := by
    simp only [execOp, ho, resolve, hc, h2, he.eval hy, Deferred.ofValue]
    simp [invoke]
  rw [e, run_enter hk]
  exact ⟨rfl, h w hm⟩
end
section
variable {H : Type} {enc : TypeId × Value → H} {P : Program} {w : World} {base : Nat}
theorem wf_byte {z : Int} (h : (Lit.int .u8 z).wf = true) : 0 ≤ z ∧ z < 256 := by
  simp [Lit.wf, IntKind.min, IntKind.max, IntKind.signed, IntKind.bits] at h
  exact ⟨h.1, by omega⟩
theorem open_bytes {t e : TypeId} {r : Reach} {b0 : Nat} {v : Value} {d : DataW H} {p : List MemPlace} (ht : P.underlying t = some (.slice e)) (he : P.underlying e = some (.int .u8)) (hce : P.cellsOf e = 1)
    (hv : Value.okWide P w r b0 t v) (h : DataW.Trod enc P w base (fun _ => true) true t v d p) : ∃ (q : Option Addr) (n cap : Nat) (f : Nat → Nat), v = .slice q n cap ∧ n ≤ cap ∧ Sl w q n f := by
  obtain ⟨a0, len0, cap0, rfl⟩ := Go.WideShapes.okWide_slice ht hv
  obtain ⟨fuel, hf⟩ := h
  rcases open_ints ht he hce hf with ⟨hcs, hx⟩ | ⟨a, len, cap, zs, hcs, _, hl, hm, hz, hx, hcell, hwz⟩
  · simp [Value.cells] at hcs
    obtain ⟨rfl, rfl, rfl⟩ := hcs
    exact ⟨none, 0, 0, fun _ => 0, rfl, Nat.le_refl _, by decide, fun _ => by decide, fun i hi => by omega⟩
  · simp [Value.cells] at hcs
    obtain ⟨rfl, rfl, rfl⟩ := hcs
    simp only [if_true] at hz
    refine ⟨some a, _, _, fun i => (zs.getD i 0).toNat, rfl, hl, by simp [maxLen] at hm; omega, fun i => ?_, fun i hi => ?_⟩
    · by_cases hi : i < zs.length
      · have := wf_byte (hwz zs[i] (List.getElem_mem hi))
        simp [List.getD, hi]; omega
      · simp [List.getD, hi]
    · have h0 := hcell 0 (by omega)
      have hi' := hcell i (by omega)
      obtain ⟨b, off, spot⟩ := a
      have hs : spot = none := by
        simp only [Addr.add, if_true, World.cell?] at h0
        split at h0
        · cases spot with
          | none => rfl
          | some x => simp at h0
        · cases h0
      subst hs
      refine ⟨b, off, rfl, ?_⟩
      rw [Addr.add_mid] at hi'
      rw [hi']
      have := wf_byte (hwz zs[i] (List.getElem_mem (by omega)))
      have h2 : zs.getD i 0 = zs[i] := by simp [List.getD, show i < zs.length by omega]
      rw [h2, Int.toNat_of_nonneg this.1]
end
/-! ### bits -/
theorem b63 {a : Nat} (ha : a < 9223372036854775808) : (BitVec.ofInt 64 (a : Int)).toNat = a := by
  rw [BitVec.ofInt_natCast, BitVec.toNat_ofNat]; exact Nat.mod_eq_of_lt (by omega)
theorem xor63 {a b : Nat} (ha : a < 9223372036854775808) (hb : b < 9223372036854775808) : a ^^^ b < 9223372036854775808 := Nat.xor_lt_two_pow (n := 63) ha hb
theorem or63 {a b : Nat} (ha : a < 9223372036854775808) (hb : b < 9223372036854775808) : a ||| b < 9223372036854775808 := Nat.or_lt_two_pow (n := 63) ha hb
theorem xor_int {a b : Nat} (ha : a < 9223372036854775808) (hb : b < 9223372036854775808) : bits .xor .i64 (a : Int) (b : Int) = ((a ^^^ b : Nat) : Int) := by
  have hx := xor63 ha hb
  show IntKind.i64.wrap ((BitVec.ofInt 64 (a : Int) ^^^ BitVec.ofInt 64 (b : Int)).toNat : Int) = _
  rw [BitVec.toNat_xor, b63 ha, b63 hb]
  exact wrap_i64 _ (by omega) (by omega)
theorem or_int {a b : Nat} (ha : a < 9223372036854775808) (hb : b < 9223372036854775808) : bits .or .i64 (a : Int) (b : Int) = ((a ||| b : Nat) : Int) := by
  have hx := or63 ha hb
  show IntKind.i64.wrap ((BitVec.ofInt 64 (a : Int) ||| BitVec.ofInt 64 (b : Int)).toNat : Int) = _
  rw [BitVec.toNat_or, b63 ha, b63 hb]
  exact wrap_i64 _ (by omega) (by omega)
theorem xor_nought {a b : Nat} : a ^^^ b = 0 ↔ a = b := by
  constructor
  · intro h
    have : a ^^^ (b ^^^ b) = b := by rw [← Nat.xor_assoc, h, Nat.zero_xor]
    rwa [Nat.xor_self, Nat.xor_zero] at this
  · rintro rfl; exact Nat.xor_self a
theorem xor_u8 {a b : Nat} (ha : a < 256) (hb : b < 256) : bits .xor .u8 (a : Int) (b : Int) = ((a ^^^ b : Nat) : Int) := by
  have hx : a ^^^ b < 256 := Nat.xor_lt_two_pow (n := 8) ha hb
  have h1 : (BitVec.ofInt 8 (a : Int)).toNat = a := by
    rw [BitVec.ofInt_natCast, BitVec.toNat_ofNat]; exact Nat.mod_eq_of_lt (by omega)
  have h2 : (BitVec.ofInt 8 (b : Int)).toNat = b := by
    rw [BitVec.ofInt_natCast, BitVec.toNat_ofNat]; exact Nat.mod_eq_of_lt (by omega)
  show IntKind.u8.wrap ((BitVec.ofInt 8 (a : Int) ^^^ BitVec.ofInt 8 (b : Int)).toNat : Int) = _
  rw [BitVec.toNat_xor, h1, h2]
  exact wrap_u8 _ (by omega) (by omega)
end Go.Proofs.Ytjianfhodjapgaa
namespace Go.Proofs.Ytjianfhodjapgaa
open Go.RowKit
set_option linter.unusedVariables false
set_option linter.unusedSimpArgs false
def strB (l : List Nat) : ByteArray := strOfNums (l.map fun k : Nat => (k : Int))
theorem strB_data (l : List Nat) : (strB l).data.toList = l.map UInt8.ofNat := by
  rw [strB, strOfNums_data, List.map_map]
  apply List.map_congr_left
  intro k _
  simp
theorem strB_size (l : List Nat) : (strB l).size = l.length := by rw [strB, strOfNums_size, List.length_map]
theorem ofNat_inj {a b : Nat} (ha : a < 256) (hb : b < 256) (h : UInt8.ofNat a = UInt8.ofNat b) : a = b := by
  have := congrArg UInt8.toNat h
  rwa [UInt8.toNat_ofNat', UInt8.toNat_ofNat', Nat.mod_eq_of_lt ha, Nat.mod_eq_of_lt hb] at this
theorem map_inj {p q : List Nat} (hp : ∀ x ∈ p, x < 256) (hq : ∀ x ∈ q, x < 256) (h : p.map UInt8.ofNat = q.map UInt8.ofNat) : p = q := by
  induction p generalizing q with
  | nil => cases q with
    | nil => rfl
    | cons b r => simp at h
  | cons a r ih => cases q with
    | nil => simp at h
    | cons b r' =>
      simp only [List.map_cons, List.cons.injEq] at h
      rw [ofNat_inj (hp a (by simp)) (hq b (by simp)) h.1, ih (fun x hx => hp x (by simp [hx])) (fun x hx => hq x (by simp [hx])) h.2]
theorem strB_inj {n m : Nat} {p q : List Nat} (hp : BL n p) (hq : BL m q) : strB p = strB q ↔ p = q := by
  refine ⟨fun h => ?_, fun h => by rw [h]⟩
  have h1 := congrArg (fun b => b.data.toList) h
  simp only [strB_data] at h1
  exact map_inj hp.by' hq.by' h1
theorem cs_string {P : Program} {w : World} {v : Value} {n src dst e : Nat} {p : List Nat} (hb : Cb w v n p) (hs : P.underlying src = some (.slice e)) (he : P.underlying e = some (.int .u8)) (hd : P.underlying dst = some .string) :
    (convert src dst v).run P w = .ok (.string (strB p)) w := by
  have hp := hb.ok
  have h := hb.cs
  clear hb
  obtain ⟨q, cap, rfl, h1, h2, h3⟩ := h.ln.out
  rcases Nat.eq_zero_or_pos n with h0 | h0
  · have hp0 : p = [] := List.eq_nil_of_length_eq_zero (by rw [hp.len, h0])
    subst hp0
    cases q with
    | none => rw [run_convert_bytes_nil w src e hs he n cap dst hd]; rfl
    | some a =>
      obtain ⟨b, off, spot⟩ := a
      have hl : (loadCells ⟨b, off, spot⟩ n).run P w = .ok (([] : List Int).map (Value.int .u8)).toArray w := by subst h0; simp [loadCells, loadCellsFrom]
      rw [run_convert_bytes_string w src dst e _ n cap hs he hd, run_bytesToString w _ n cap [] hl]
      rfl
  · obtain ⟨b, off, rfl⟩ := h3 h0
    refine run_convert_bytes_arg w src e hs he b off n cap (p.map fun k : Nat => (k : Int)) (by rw [List.length_map, hp.len]) (fun i hi => ?_) dst hd
    obtain ⟨b', off', cap', hv, hc⟩ := h.cell i (.int .u8 ((p.getD i 0 : Nat) : Int)) (bl_get (by rw [hp.len]; exact hi))
    injection hv with hv
    injection hv with hv
    injection hv with hb ho
    subst hb; subst ho
    rw [hc]
    have hi' : i < p.length := by rw [hp.len]; exact hi
    simp [List.getD, hi']
section
variable {X : Cx} {s : Slots} {l : Blks} {o : Oper} {v : Value}
theorem rd_convS {src dst e n : Nat} {x : Operand} {p : List Nat} (ho : o.op = .convert src dst x) (hx : val s x = some v) [hs : UT X.P src (.slice e)] [he : UT X.P e (.int .u8)] [hd : UT X.P dst .string] [hv : VwB X l v n p] : RdV X s l o (.string (strB p)) :=
  rd_val fun a w hev hm => by
    simp only [execOp, ho, hev.eval hx, Sem.run_bind, cs_string (hv.out w hm) hs.out he.out hd.out, Result.andThen_ok, Sem.run_pure]
theorem rd_eqlS {t yt : Nat} {x y : Operand} {a b : ByteArray} {r : Bool} (ho : o.op = .binOp .eql t x y yt) (hx : val s x = some (.string a)) (hy : val s y = some (.string b)) (hr : (a.toList == b.toList) = r := by first | (with_reducible assumption) | rfl) : RdV X s l o (.bool r) :=
  rd_val fun e w he hm => by
    subst hr
    simp only [execOp, ho, he.eval hx, he.eval hy, eqGuard]
    simp [binOp_string_eql]
end
theorem strB_beq {n m : Nat} {p q : List Nat} (hp : BL n p) (hq : BL m q) : ((strB p).toList == (strB q).toList) = (p == q) := by
  rw [Bool.eq_iff_iff, beq_iff_eq, beq_iff_eq, ← strB_inj hp hq, ByteArray.toList_eq, ByteArray.toList_eq]
  constructor
  · intro h
    cases h1 : strB p; cases h2 : strB q
    rw [h1, h2] at h
    congr 1
    exact Array.ext' h
  · intro h; rw [h]
set_option maxHeartbeats 1000000 in
set_option maxRecDepth 100000 in
theorem beq_c (w : World) {v u : Value} {n m : Nat} {p q : List Nat} (hv : Cb w v n p) (hu : Cb w u m q) : Calls Try.prog 26 [v, u].toArray w (Ret (.bool (p == q)) w) := by
  haveI := hv.old
  haveI := hu.old
  have hr := strB_beq hv.ok hu.ok
  refine fn_ret (N := _) Try.func26 rfl Try.ntmps26 Try.results26 (by simp) ?_
  simp only [initS, Nat.reduceAdd, Nat.zero_add]
  repeat' (first | (refine wlS ?_) | (refine wlB ?_) | (refine wl_skip rfl rfl ?_) | ((with_reducible refine wc_seq ?_); intro K hK) | (refine auC ?_) | (refine wc_cond rfl (fun hc => ?_) (fun hc => ?_)) | (refine wc_draw (by kernel_rfl) (by kernel_rfl) (by decide +kernel) ?_; intro w0 hw0 hm0; (try simp only [List.append_eq, List.cons_append, List.nil_append])) | (refine auP ?_) | ((refine auR ?_); clear hK K) | (refine auR ?_) | ((with_reducible refine hK _ _ ?_); clear hK K) | fail)
  first | refine end_ret (ResP.tmp rfl ResP.nil) ?_ | refine end_normal (ResP.tmp rfl ResP.nil) ?_
  first | rfl | (show _ = _; rfl) | (simp only [tupV, *]; done)
theorem beq_r (w : World) {v u : Value} {n m : Nat} {p q : List Nat} {r : Bool} (hv : Cb w v n p) (hu : Cb w u m q) (h : (p == q) = r) : Calls Try.prog 26 [v, u].toArray w (Ret (.bool r) w) := by
  rw [← h]; exact beq_c w hv hu
end Go.Proofs.Ytjianfhodjapgaa
namespace Go.Proofs.Ytjianfhodjapgaa
open Go.RowKit
set_option linter.unusedVariables false
set_option linter.unusedSimpArgs false
theorem At.skipA {n : Nat} {x y : Array Value × TypeId} {r r' : Blks} (h : At r n x y r') : ∀ ob : Blks, At (ob ++ r) n x y (ob ++ r')
  | [] => h
  | _ :: o => .there (At.skipA h o)
theorem Inn.skipA {n : Nat} {x : Array Value × TypeId} {r : Blks} (h : Inn r n x) : ∀ ob : Blks, Inn (ob ++ r) n x
  | [] => h
  | _ :: o => .there (Inn.skipA h o)
theorem Has.sees {X : Cx} {l : Blks} {n : Nat} {c : Array Value} {e : Nat} {w : World} (hm : Mem X l w) (h : Inn l n (c, e) := by repeat (first | exact Inn.here (by first | with_unfolding_all rfl | assumption) | apply Inn.there | apply Inn.skipA)) : w.heap[n]? = some (.cells c e) := Has.inn h w hm
end Go.Proofs.Ytjianfhodjapgaa
namespace Go.Proofs.Ytjianfhodjapgaa
open Go.RowKit
set_option linter.unusedVariables false
set_option linter.unusedSimpArgs false
set_option maxRecDepth 100000
/-- An attribute: its kind, its value's slice, the bytes. -/
abbrev Att := Int × Value × List Nat
def atC (x : Att) : List Value := [.int .i64 x.1, x.2.1]
def atsC (l : List Att) : List Value := (l.map atC).flatten
theorem atsC_len : ∀ l : List Att, (atsC l).length = l.length * 2
  | [] => rfl
  | x :: r => by
    have := atsC_len r
    unfold atsC at this ⊢
    simp only [List.map_cons, List.flatten_cons, List.length_append, this, List.length_cons, atC, List.length_nil]; omega
theorem atsC_app (a b : List Att) : atsC (a ++ b) = atsC a ++ atsC b := by simp [atsC]
theorem atsC_get : ∀ {l : List Att} {i : Nat} {x : Att}, l[i]? = some x → ((atsC l).drop (i * 2)).take 2 = [.int .i64 x.1, x.2.1]
  | [], _, _, h => by simp at h
  | y :: r, 0, x, h => by
    simp only [List.getElem?_cons_zero, Option.some.injEq] at h
    subst h
    simp [atsC, atC]
  | y :: r, i + 1, x, h => by
    rw [List.getElem?_cons_succ] at h
    have ih := atsC_get h
    rw [show (i + 1) * 2 = 2 + i * 2 by omega, ← List.drop_drop]
    have : (atsC (y :: r)).drop 2 = atsC r := by simp [atsC, atC]
    rw [this]
    exact ih
theorem atsC_val {l : List Att} {i : Nat} {x : Att} (h : l[i]? = some x) : (atsC l)[i * 2 + 1]? = some x.2.1 := by
  have := congrArg (·[1]?) (atsC_get h)
  simpa using this
/-- A slice of attributes in a world. -/
structure Ats (w : World) (v : Value) (l : List Att) : Prop where
  cs : Cs w v l.length (atsC l)
  body : ∀ x ∈ l, Cb w x.2.1 x.2.2.length x.2.2
theorem Ats.below {w w' : World} {v : Value} {l : List Att} (h : Ats w v l) (hb : Below w.heap.size w w') : Ats w' v l := ⟨h.cs.below hb, fun x hx => (h.body x hx).below hb⟩
/-- The same in all worlds of which Φ is told. -/
class AtF (Φ : outParam (World → Prop)) (v : Value) (l : outParam (List Att)) : Prop where
  cs : CsF Φ v l.length (atsC l)
  out : ∀ w, Φ w → Ats w v l
theorem Ats.old {W : World} {v : Value} {l : List Att} (h : Ats W v l) : AtF (Old W []) v l := ⟨h.cs.old, fun w ho =>
  ⟨h.cs.old.out w ho, fun x hx => ⟨(h.body x hx).cs.old.out w ho, (h.body x hx).ok⟩⟩⟩
class VwT (X : Cx) (l : Blks) (v : Value) (ts : outParam (List Att)) : Prop where
  out : ∀ w, Mem X l w → Ats w v ts
instance {X : Cx} {l : Blks} {Φ : World → Prop} {v : Value} {ts : List Att} [h : AtF Φ v ts] [h' : Hold X l Φ] : VwT X l v ts := ⟨fun w hm => h.out w (h'.out w hm)⟩
/-- The first of a kind. -/
def findN (k : Int) : List Att → Nat → Option Nat
  | [], _ => none
  | x :: r, i => if x.1 = k then some i else findN k r (i + 1)
def findI (l : List Att) (k : Int) : Int := match l.findIdx? (fun x => x.1 == k) with
  | some i => (i : Int)
  | none => -1
def matchB (l ask : List Att) : Bool := ask.all fun x => match l.find? (fun y => y.1 == x.1) with
  | some y => y.2.2 == x.2.2
  | none => false
theorem match_nil (l : List Att) : matchB l [] = true := rfl
theorem match_app (l a b : List Att) : matchB l (a ++ b) = (matchB l a && matchB l b) := by simp [matchB, List.all_append]
theorem match_cons (l : List Att) (x : Att) (r : List Att) : matchB l (x :: r) = (matchB l [x] && matchB l r) := match_app l [x] r
theorem match_trans {l a b : List Att} (h1 : matchB l a = true) (h2 : matchB a b = true) : matchB l b = true := by
  unfold matchB at *
  rw [List.all_eq_true] at *
  intro x hx
  have h3 := h2 x hx
  cases hy : a.find? (fun y => y.1 == x.1) with
  | none => rw [hy] at h3; cases h3
  | some y =>
    rw [hy] at h3
    have hk : y.1 = x.1 := by simpa using List.find?_some hy
    have h4 := h1 y (List.mem_of_find?_eq_some hy)
    rw [hk] at h4
    cases hz : l.find? (fun z => z.1 == x.1) with
    | none => rw [hz] at h4; cases h4
    | some z =>
      rw [hz] at h4
      dsimp only at h3 h4 ⊢
      rw [beq_iff_eq] at *
      rw [h4, h3]
theorem findIdx_find {l : List Att} {k : Int} : (∀ i, l.findIdx? (fun x => x.1 == k) = some i → ∃ y, l[i]? = some y ∧ l.find? (fun x => x.1 == k) = some y) ∧ (l.findIdx? (fun x => x.1 == k) = none → l.find? (fun x => x.1 == k) = none) := by
  induction l with
  | nil => exact ⟨fun i h => by simp at h, fun _ => rfl⟩
  | cons x r ih =>
    by_cases hx : (x.1 == k) = true
    · refine ⟨fun i h => ?_, fun h => ?_⟩
      · rw [List.findIdx?_cons, hx] at h
        simp only [if_true, Option.some.injEq] at h
        subst h
        exact ⟨x, rfl, by rw [List.find?_cons, hx]⟩
      · rw [List.findIdx?_cons, hx] at h; simp at h
    · have hx' : (x.1 == k) = false := by simpa using hx
      refine ⟨fun i h => ?_, fun h => ?_⟩
      · rw [List.findIdx?_cons, hx'] at h
        simp only [Bool.false_eq_true, if_false, Option.map_eq_some_iff] at h
        obtain ⟨j, hj, rfl⟩ := h
        obtain ⟨y, h1, h2⟩ := ih.1 j hj
        exact ⟨y, by simpa using h1, by rw [List.find?_cons, hx']; exact h2⟩
      · rw [List.findIdx?_cons, hx'] at h
        simp only [Bool.false_eq_true, if_false, Option.map_eq_none_iff] at h
        rw [List.find?_cons, hx']; exact ih.2 h
set_option maxHeartbeats 2000000 in
/-- Is it of this kind? -/
theorem isk_c (w : World) {g : Nat} {k z : Int} {v : Value} [One v] (h : w.heap[g]? = some (.cells #[.int .i64 k] 3)) : Calls Try.prog 41 [.agg #[.int .i64 z, v], ptr g].toArray w (Ret (.bool (z == k)) w) := by
  have hc : w.cell? ⟨g, 0, none⟩ = some (.int .i64 k) := by simp [World.cell?, h]
  clear h
  refine fn_ret (N := _) Try.func41 rfl Try.ntmps41 Try.results41 (by simp) ?_
  simp only [initS, Nat.reduceAdd, Nat.zero_add]
  repeat' (first | (refine wlS ?_) | (refine wlB ?_) | (refine wlO ?_) | (refine efBnn ?_; intro n hn) | (refine wl_skip rfl rfl ?_) | ((with_reducible refine wc_seq ?_); intro K hK) | (refine auC ?_) | (refine wc_cond rfl (fun hc => ?_) (fun hc => ?_)) | (refine wc_draw (by kernel_rfl) (by kernel_rfl) (by decide +kernel) ?_; intro w0 hw0 hm0; (try simp only [List.append_eq, List.cons_append, List.nil_append])) | (refine auP ?_) | ((refine auR ?_); clear hK K) | (refine auR ?_) | ((with_reducible refine hK _ _ ?_); clear hK K) | fail)
  first | refine end_ret (ResP.tmp rfl ResP.nil) ?_ | refine end_normal (ResP.tmp rfl ResP.nil) ?_
  first | rfl | (show _ = _; rfl) | (simp only [tupV, *]; done)
set_option maxHeartbeats 4000000 in
theorem ixf_c (w : World) {u : Value} {l : List Att} {g : Nat} {k : Int} (h : Ats w u l) (hg : w.heap[g]? = some (.cells #[.int .i64 k] 3)) :
    Calls Try.prog 40 [u, .func (.func 41) #[] [ptr g].toArray].toArray w (Ret (.int .i64 (findI l k)) w) := by
  have i0 := h.cs.old
  have IK : ∀ {z : Int} {v : Value} [One v] w', Below w.heap.size w w' → Calls Try.prog 41 ([Value.agg #[.int .i64 z, v]] ++ [ptr g]).toArray w' (Ret (.bool (z == k)) w') := fun {z v} _ w' hb => isk_c w' (by rw [hb.block g (blk_lt hg)]; exact hg)
  have hl63 : l.length ≤ 9223372036854775807 := by obtain ⟨_, _, _, h1, h2, _⟩ := h.cs.ln.out; simp only [maxLen] at h2; omega
  have one : ∀ x ∈ l, One x.2.1 := fun x hx => by
    haveI : Ln x.2.1 x.2.2.length := (h.body x hx).cs.ln
    exact inferInstance
  clear h hg
  refine fn_ret (N := _) Try.func40 rfl Try.ntmps40 Try.results40 (by simp) ?_
  simp only [initS, Nat.reduceAdd, Nat.zero_add]
  repeat' (first | (refine wlS ?_) | (refine wlB ?_) | (refine wlE ?_) | (refine efSvao ?_; intro v oa ho) | (refine wl_skip rfl rfl ?_) | ((with_reducible refine wc_seq ?_); intro K hK) | (refine auC ?_) | (refine wc_cond rfl (fun hc => ?_) (fun hc => ?_)) | (refine wc_draw (by kernel_rfl) (by kernel_rfl) (by decide +kernel) ?_; intro w0 hw0 hm0; (try simp only [List.append_eq, List.cons_append, List.nil_append])) | (refine auP ?_) | ((refine auR ?_); clear hK K) | (refine auR ?_) | ((with_reducible refine hK _ _ ?_); clear hK K) | fail)
  refine wc_loop (σ := Nat) (fun i => [(0, u), (1, .func (.func 41) #[] [ptr g].toArray), (7, .int .i64 (l.length : Int)), (8, .int .i64 (i : Int))]) (fun _ => [])
    (fun i => i ≤ l.length ∧ ∀ j x, j < i → l[j]? = some x → (x.1 == k) = false) (fun i => l.length - i) 0 ⟨Nat.zero_le _, fun j x hj => absurd hj (by omega)⟩ (Fits.of ⟨rfl, rfl, rfl, rfl, trivial⟩ .nil rfl) ?_
  rintro i ⟨hi, hno⟩
  by_cases hlt : i < l.length
  · obtain ⟨⟨z, v, q⟩, hx⟩ : ∃ x, l[i]? = some x := ⟨l[i], List.getElem?_eq_getElem hlt⟩
    have hget := atsC_get hx
    have t1 : decide ((i : Int) < (l.length : Int)) = true := decide_eq_true (by omega)
    have t2 : IntKind.i64.wrap ((i : Int) + 1) = ((i + 1 : Nat) : Int) := by rw [wrap_i64 _ (by omega) (by omega)]; omega
    have j1 : (i : Int) < (l.length : Int) := by omega
    haveI : One v := one _ (List.mem_of_getElem? hx)
    dsimp only at hget
    by_cases hz : (z == k) = true
    · have IK1 := fun w' hb => IK (z := z) (v := v) w' hb
      rw [hz] at IK1
      have hf : findI l k = (i : Int) := by
        have : l.findIdx? (fun x => x.1 == k) = some i := by
          rw [List.findIdx?_eq_some_iff_getElem]
          refine ⟨hlt, ?_, fun j hj => ?_⟩
          · have := (List.getElem?_eq_some_iff.1 hx).2; rw [this]; exact hz
          · have := hno j _ hj (List.getElem?_eq_getElem (by omega)); simpa using this
        rw [findI, this]
      rw [hf]
      clear IK hno one
      repeat' (first | (refine wlS ?_) | (refine wlB ?_) | ((with_reducible refine sel_call ?_); refine wl_rd rfl rfl (rd_callc rfl rfl rfl rfl (fun w hm => by with_reducible exact IK1 w (hm.below rfl))) ?_) | (refine wlE ?_) | (refine efSvao ?_; intro v oa ho) | (refine wl_skip rfl rfl ?_) | ((with_reducible refine wc_seq ?_); intro K hK) | (refine auC ?_) | (refine wc_cond rfl (fun hc => ?_) (fun hc => ?_)) | (refine wc_draw (by kernel_rfl) (by kernel_rfl) (by decide +kernel) ?_; intro w0 hw0 hm0; (try simp only [List.append_eq, List.cons_append, List.nil_append])) | (refine auP ?_) | ((refine auR ?_); clear hK K) | (refine auR ?_) | ((with_reducible refine hK _ _ ?_); clear hK K) | fail)
      first | refine end_ret (ResP.tmp rfl ResP.nil) ?_ | refine end_normal (ResP.tmp rfl ResP.nil) ?_
      first | rfl | (show _ = _; rfl) | (simp only [tupV, *]; done)
    · have hz' : (z == k) = false := by simpa using hz
      have IK1 := fun w' hb => IK (z := z) (v := v) w' hb
      rw [hz'] at IK1
      clear IK
      repeat' (first | (refine wlS ?_) | (refine wlB ?_) | ((with_reducible refine sel_call ?_); refine wl_rd rfl rfl (rd_callc rfl rfl rfl rfl (fun w hm => by with_reducible exact IK1 w (hm.below rfl))) ?_) | (refine wlE ?_) | (refine efSvao ?_; intro v oa ho) | (refine wl_skip rfl rfl ?_) | ((with_reducible refine wc_seq ?_); intro K hK) | (refine auC ?_) | (refine wc_cond rfl (fun hc => ?_) (fun hc => ?_)) | (refine wc_draw (by kernel_rfl) (by kernel_rfl) (by decide +kernel) ?_; intro w0 hw0 hm0; (try simp only [List.append_eq, List.cons_append, List.nil_append])) | (refine auP ?_) | ((refine auR ?_); clear hK K) | (refine auR ?_) | ((with_reducible refine hK _ _ ?_); clear hK K) | fail)
      refine ⟨i + 1, ⟨hlt, fun j x hj hjx => ?_⟩, by omega, Fits.of ⟨rfl, rfl, rfl, rfl, trivial⟩ .nil rfl⟩
      rcases Nat.lt_or_ge j i with h1 | h1
      · exact hno j x h1 hjx
      · obtain rfl : j = i := by omega
        rw [hx] at hjx
        cases hjx
        exact hz'
  · obtain rfl : i = l.length := by omega
    have t1 : decide ((l.length : Int) < (l.length : Int)) = false := decide_eq_false (by omega)
    have hf : findI l k = -1 := by
      have : l.findIdx? (fun x => x.1 == k) = none := by
        rw [List.findIdx?_eq_none_iff]
        intro x hx
        obtain ⟨j, hj, he⟩ := List.mem_iff_getElem.1 hx
        exact hno j x hj (by rw [List.getElem?_eq_getElem hj, he])
      rw [findI, this]
    rw [hf]
    clear IK hno one
    repeat' (first | (refine wlS ?_) | (refine wlB ?_) | (refine wlE ?_) | (refine efSvao ?_; intro v oa ho) | (refine wl_skip rfl rfl ?_) | ((with_reducible refine wc_seq ?_); intro K hK) | (refine auC ?_) | (refine wc_cond rfl (fun hc => ?_) (fun hc => ?_)) | (refine wc_draw (by kernel_rfl) (by kernel_rfl) (by decide +kernel) ?_; intro w0 hw0 hm0; (try simp only [List.append_eq, List.cons_append, List.nil_append])) | (refine auP ?_) | ((refine auR ?_); clear hK K) | (refine auR ?_) | ((with_reducible refine hK _ _ ?_); clear hK K) | fail)
    first | refine end_ret (ResP.tmp rfl ResP.nil) ?_ | refine end_normal (ResP.tmp rfl ResP.nil) ?_
    first | rfl | (show _ = _; rfl) | (simp only [tupV, *]; done)
set_option maxHeartbeats 2000000 in
theorem find_c (w : World) {u : Value} {l : List Att} {k : Int} (h : Ats w u l) : Calls Try.prog 35 [u, .int .i64 k].toArray w (Ret (.int .i64 (findI l k)) w) := by
  haveI i0 := h.old
  haveI i1 := h.cs.old
  have IX : ∀ {g : Nat} w', Ats w' u l → w'.heap[g]? = some (.cells #[.int .i64 k] 3) → Calls Try.prog 40 [u, .func (.func 41) #[] [ptr g].toArray].toArray w' (Ret (.int .i64 (findI l k)) w') := fun w' h1 h2 => ixf_c w' h1 h2
  clear h
  refine fn_ret (N := _) Try.func35 rfl Try.ntmps35 Try.results35 (by simp) ?_
  simp only [initS, Nat.reduceAdd, Nat.zero_add]
  repeat' (first | (refine wlS ?_) | (refine wlB ?_) | (refine wlMF ?_) | ((with_reducible refine sel_call ?_); refine wl_rd rfl rfl (rd_call rfl rfl rfl (fun w hm => by with_reducible exact IX w (VwT.out w hm) (Has.sees hm))) ?_) | (refine wlE ?_) | (refine efSvao ?_; intro v oa ho) | (refine efBnn ?_; intro n hn) | (refine wl_skip rfl rfl ?_) | ((with_reducible refine wc_seq ?_); intro K hK) | (refine auC ?_) | (refine wc_cond rfl (fun hc => ?_) (fun hc => ?_)) | (refine wc_draw (by kernel_rfl) (by kernel_rfl) (by decide +kernel) ?_; intro w0 hw0 hm0; (try simp only [List.append_eq, List.cons_append, List.nil_append])) | (refine auP ?_) | ((refine auR ?_); clear hK K) | (refine auR ?_) | ((with_reducible refine hK _ _ ?_); clear hK K) | fail)
  first | refine end_ret (ResP.tmp rfl ResP.nil) ?_ | refine end_normal (ResP.tmp rfl ResP.nil) ?_
  first | rfl | (show _ = _; rfl) | (simp only [tupV, *]; done)
end Go.Proofs.Ytjianfhodjapgaa
namespace Go.Proofs.Ytjianfhodjapgaa
open Go.RowKit Go.ChangeShapes Go.WideShapes
set_option linter.unusedVariables false
set_option linter.unusedSimpArgs false
/-! ### Bulk -/
theorem bulk_one {H : Type} (d : DataW H) : 1 ≤ Rows.uptoBulk d := by
  cases d with
  | lit l => cases l <;> simp [Rows.uptoBulk]
  | _ => simp [Rows.uptoBulk]
theorem bulk_len {H : Type} : ∀ l : List (DataW H), l.length ≤ Rows.uptoBulkAll l
  | [] => Nat.zero_le _
  | d :: r => by have := bulk_one d; have := bulk_len r; simp only [Rows.uptoBulkAll, List.length_cons]; omega
theorem bulk_sum {H : Type} : ∀ l : List (DataW H), Rows.uptoBulkAll l = (l.map Rows.uptoBulk).sum
  | [] => rfl
  | d :: r => by simp only [Rows.uptoBulkAll, List.map_cons, List.sum_cons, bulk_sum r]
theorem bulk_slice {H : Type} (a b : List (DataW H)) : Rows.uptoBulkAll a + 1 ≤ Rows.uptoBulk (.slice a b) := by simp only [Rows.uptoBulk]; omega
theorem bulk_agg {H : Type} (a : List (DataW H)) : Rows.uptoBulk (.agg a) = Rows.uptoBulkAll a + 1 := by simp only [Rows.uptoBulk]
/-- Whatever is read as a 't' is so, and its bulk is the number's. -/
def Rdg (P : Program) (W : World) (t : TypeId) (F : List Value → Nat → Prop) : Prop :=
  ∀ (H : Type) (enc : TypeId × Value → H) fuel cs x, DataW.trod enc P W 0 (fun _ => true) true fuel t cs = some x → F cs (Rows.uptoBulk x.1)
section
variable {P : Program} {W : World} {t e : TypeId}
theorem Rdg.mono {F G : List Value → Nat → Prop} (h : Rdg P W t F) (hg : ∀ cs b, F cs b → G cs b) : Rdg P W t G := fun H enc fuel cs x hx => hg _ _ (h H enc fuel cs x hx)
theorem rdg_int {k : IntKind} (ht : P.underlying t = some (.int k)) : Rdg P W t fun cs b => ∃ z, cs = [.int k z] ∧ (Lit.int k z).wf = true := fun H enc fuel cs x hx => by
  obtain ⟨m, h1, h2, h3⟩ := DataW.trod_int ht hx
  exact ⟨m, h1, h3⟩
theorem spot_none {w : World} {a : Addr} {u : Value} (h : w.cell? a = some u) : a.spot = none := by
  simp only [World.cell?] at h
  split at h
  · cases hs : a.spot with
    | none => rfl
    | some x => simp [hs] at h
  · cases h
/-- A slice: its elements, each so read. -/
theorem rdg_slice {F : List Value → Nat → Prop} {k : Nat} (ht : P.underlying t = some (.slice e)) (hk : P.cellsOf e = k) (hpos : 0 < k) (hF : Rdg P W e F) :
    Rdg P W t fun cs b => ∃ v n, ∃ cc : List (List Value × Nat), cs = [v] ∧ cc.length = n ∧ (∀ c ∈ cc, F c.1 c.2 ∧ c.1.length = k) ∧ Cs W v n (cc.map (·.1)).flatten ∧ (cc.map (·.2)).sum + 1 ≤ b := fun H enc fuel cs x hx => by
  rcases DataW.trod_slice ht hx with ⟨rfl, rfl⟩ | ⟨a, len, cap, elems, rest, n, rfl, rfl, rfl, _, hl, hm, hlen, hel, _, _⟩
  · exact ⟨.slice none 0 0, 0, [], rfl, rfl, by simp, ⟨⟨none, 0, rfl, Nat.le_refl _, Nat.zero_le _, fun h => absurd h (by omega)⟩, fun j u h => by simp at h⟩, by simp [Rows.uptoBulk]⟩
  · have each : ∀ i, i < len → ∃ ci : List Value, W.cells? 0 (a.add (i * k)) k = some ci ∧ ∃ y, elems[i]? = some y ∧ DataW.trod enc P W 0 (fun _ => true) true n e ci = some y := fun i hi => by
      have h1 := hel i hi
      rw [hk, List.getElem?_eq_getElem (by omega), Option.bind_eq_some_iff] at h1
      obtain ⟨ci, h2, h3⟩ := h1
      exact ⟨ci, h2, elems[i]'(by omega), List.getElem?_eq_getElem (by omega), h3⟩
    let f : Nat → List Value := fun i => (W.cells? 0 (a.add (i * k)) k).getD []
    have hf : ∀ i, i < len → W.cells? 0 (a.add (i * k)) k = some (f i) := fun i hi => by
      obtain ⟨ci, h2, _⟩ := each i hi
      simp only [f, h2, Option.getD_some]
    have hfl : ∀ i, i < len → (f i).length = k := fun i hi => (World.cells?_some (hf i hi)).2.1
    refine ⟨.slice (some a) len cap, len, (List.range len).map fun i => (f i, Rows.uptoBulk ((elems.map (·.1)).getD i .nil)), rfl, by simp, ?_, ?_, ?_⟩
    · intro c hc
      obtain ⟨i, hi, rfl⟩ := List.mem_map.1 hc
      have hi := List.mem_range.1 hi
      refine ⟨?_, hfl i hi⟩
      obtain ⟨ci, h2, y, h3, h4⟩ := each i hi
      rw [hf i hi] at h2
      cases h2
      have : (elems.map (·.1)).getD i .nil = y.1 := by simp [List.getD, h3]
      dsimp only
      rw [this]
      exact hF H enc n _ y h4
    · have sp : 0 < len → a.spot = none := fun h0 => by
        have h1 := hf 0 h0
        rw [Nat.zero_mul] at h1
        have h2 := (World.cells?_some h1).2.2 0 hpos
        have hlt : 0 < (f 0).length := by rw [hfl 0 h0]; exact hpos
        rw [List.getElem?_eq_getElem hlt] at h2
        simpa [Addr.add] using spot_none h2
      have hfl' : (List.map (fun x => x.1) (List.map (fun i => (f i, Rows.uptoBulk ((elems.map (·.1)).getD i .nil))) (List.range len))).flatten = ((List.range len).map f).flatten := by rw [List.map_map]; rfl
      rw [hfl']
      refine ⟨⟨_, _, rfl, hl, hm, fun h0 => ?_⟩, fun j u hj => ?_⟩
      · obtain ⟨b, off, spot⟩ := a
        obtain rfl : spot = none := sp h0
        exact ⟨b, off, rfl⟩
      · have hfind : ∀ m, (∀ i, i < m → i < len) → ∀ j u, (((List.range m).map f).flatten)[j]? = some u → ∃ i, i < m ∧ i * k ≤ j ∧ j < i * k + k ∧ (f i)[j - i * k]? = some u := by
          intro m
          induction m with
          | zero => intro _ j u h; simp at h
          | succ m ih =>
            intro hm' j u h
            have hlm : (((List.range m).map f).flatten).length = m * k := by
              have : ∀ q, q ≤ m → (((List.range q).map f).flatten).length = q * k := fun q => by
                induction q with
                | zero => intro _; simp
                | succ q ihq => intro hq; rw [List.range_succ, List.map_append, List.flatten_append, List.length_append, ihq (by omega)]; simp [hfl q (hm' q (by omega)), Nat.succ_mul]
              exact this m (Nat.le_refl _)
            rw [List.range_succ, List.map_append, List.flatten_append] at h
            rcases Nat.lt_or_ge j (m * k) with hj | hj
            · rw [List.getElem?_append_left (by omega)] at h
              obtain ⟨i, h1, h2, h3, h4⟩ := ih (fun i hi => hm' i (by omega)) j u h
              exact ⟨i, by omega, h2, h3, h4⟩
            · rw [List.getElem?_append_right (by omega), hlm] at h
              simp only [List.map_cons, List.map_nil, List.flatten_cons, List.flatten_nil, List.append_nil] at h
              have hlt := (List.getElem?_eq_some_iff.1 h).1
              rw [hfl m (hm' m (by omega))] at hlt
              exact ⟨m, by omega, hj, by omega, h⟩
        obtain ⟨i, h1, h2, h3, h4⟩ := hfind len (fun i hi => hi) j u hj
        obtain ⟨b, off, spot⟩ := a
        obtain rfl : spot = none := sp (by omega)
        refine ⟨b, off, cap, rfl, ?_⟩
        have h5 := (World.cells?_some (hf i h1)).2.2 (j - i * k) (by omega)
        rw [Addr.add_mid, Addr.add_mid, h4] at h5
        rw [← h5]
        congr 2
        omega
    · have hb := bulk_slice (elems.map (·.1)) (rest.map (·.1))
      rw [bulk_sum] at hb
      have : (List.map (fun x => x.2) (List.map (fun i => (f i, Rows.uptoBulk ((elems.map (·.1)).getD i .nil))) (List.range len))) = (elems.map (·.1)).map Rows.uptoBulk := by
        rw [List.map_map]
        apply List.ext_getElem?
        intro i
        by_cases hi : i < len
        · simp [hi, hlen, List.getD]
        · simp [hi, hlen]
      rw [this]
      exact hb
/-- Bytes. -/
theorem rdg_bytes (ht : P.underlying t = some (.slice e)) (he : P.underlying e = some (.int .u8)) (hk : P.cellsOf e = 1) : Rdg P W t fun cs b => ∃ v n p, cs = [v] ∧ Cb W v n p ∧ n + 1 ≤ b := fun H enc fuel cs x hx => by
  obtain ⟨v, n, cc, h1, h2, h3, h4, h5⟩ := rdg_slice ht hk (by decide) (rdg_int he) H enc fuel cs x hx
  have hb : ∀ c ∈ cc, c.1 = [.int .u8 ((byteOf (c.1.headD undef) : Nat) : Int)] ∧ byteOf (c.1.headD undef) < 256 := fun c hc => by
    obtain ⟨⟨z, hz, hw⟩, _⟩ := h3 c hc
    simp [Lit.wf, IntKind.min, IntKind.max, IntKind.signed, IntKind.bits] at hw
    rw [hz]
    simp only [List.headD_cons, byteOf]
    refine ⟨by rw [Int.toNat_of_nonneg hw.1], by omega⟩
  have hfl : ∀ l : List (List Value × Nat), (∀ c ∈ l, c ∈ cc) → (l.map (·.1)).flatten = bl (l.map fun c => byteOf (c.1.headD undef)) := fun l => by
    induction l with
    | nil => intro _; rfl
    | cons c r ih => intro h; rw [List.map_cons, List.flatten_cons, ih fun d hd => h d (by simp [hd]), (hb c (h c (by simp))).1]; simp [bl, byteOf]
  have hsum : ∀ l : List (List Value × Nat), (∀ c ∈ l, c ∈ cc) → True := fun _ _ => trivial
  refine ⟨v, n, cc.map fun c => byteOf (c.1.headD undef), h1, ⟨by rw [← hfl cc fun _ h => h]; exact h4, ⟨by rw [List.length_map, h2], fun y hy => ?_⟩⟩, ?_⟩
  · obtain ⟨c, hc, rfl⟩ := List.mem_map.1 hy
    exact (hb c hc).2
  · rcases DataW.trod_slice ht hx with ⟨rfl, rfl⟩ | ⟨a, len, cap, elems, rest, m, rfl, rfl, rfl, _, hl, hm, hlen, hel, _, _⟩
    · obtain rfl : v = .slice none 0 0 := by simpa using h1.symm
      obtain ⟨_, _, hv, _⟩ := h4.ln.out
      injection hv with _ hn _
      subst hn
      simp [Rows.uptoBulk]
    · obtain ⟨_, _, hv, _⟩ := h4.ln.out
      have hv' : v = .slice (some a) len cap := by simpa using h1.symm
      rw [hv'] at hv
      injection hv with _ hn _
      subst hn
      have hb := bulk_slice (elems.map (·.1)) (rest.map (·.1))
      have := bulk_len (elems.map (·.1))
      simp only [List.length_map] at this
      dsimp only
      omega
theorem rdg_struct2 {f0 f1 : Field} {F0 F1 : List Value → Nat → Prop} (ht : P.underlying t = some (.struct #[f0, f1])) (h0 : Rdg P W f0.type F0) (h1 : Rdg P W f1.type F1) :
    Rdg P W t fun cs b => ∃ b0 b1, cs.length = P.cellsOf t ∧ F0 ((cs.drop f0.offset).take (P.cellsOf f0.type)) b0 ∧ F1 ((cs.drop f1.offset).take (P.cellsOf f1.type)) b1 ∧ b0 + b1 + 1 ≤ b := fun H enc fuel cs x hx => by
  obtain ⟨y0, y1, n, rfl, hl, e0, e1⟩ := trod_struct2 ht hx
  refine ⟨_, _, hl, h0 H enc n _ _ e0, h1 H enc n _ _ e1, ?_⟩
  rw [bulk_agg]
  simp only [Rows.uptoBulkAll]
  omega
/-- Of a struct the fields, each so read. -/
theorem rdg_struct {fs : Array Field} (ht : P.underlying t = some (.struct fs)) (F : Nat → List Value → Nat → Prop) (hF : ∀ i f, fs[i]? = some f → Rdg P W f.type (F i)) :
    Rdg P W t fun cs b => ∃ bs : List Nat, cs.length = P.cellsOf t ∧ bs.length = fs.size ∧ (∀ i f, fs[i]? = some f → F i ((cs.drop f.offset).take (P.cellsOf f.type)) (bs.getD i 0)) ∧ bs.sum + 1 ≤ b := fun H enc fuel cs x hx => by
  obtain ⟨xs, n, rfl, rfl, hl, hlen, hf⟩ := DataW.trod_struct ht hx
  refine ⟨xs.map fun y => Rows.uptoBulk y.1, hl, by simp [hlen], fun i f hi => ?_, ?_⟩
  · have h1 := hf i f hi
    have hlt : i < xs.length := by rw [hlen]; exact (Array.getElem?_eq_some_iff.1 hi).1
    rw [List.getElem?_eq_getElem hlt] at h1
    have := hF i f hi H enc n _ _ h1
    simpa [List.getD, hlt] using this
  · rw [bulk_agg, bulk_sum, List.map_map]
    exact Nat.le_refl _
end
section
variable {H : Type} {enc : TypeId × Value → H} {P : Program} {W : World}
/-- The top: one cell. -/
theorem open_cell {t : TypeId} {r : Reach} {b0 : Nat} {v : Value} {d : DataW H} {q : List MemPlace} {F : List Value → Nat → Prop} (hF : Rdg P W t F) (hv : v.cells = #[v]) (h : DataW.Trod enc P W 0 (fun _ => true) true t v d q) : F [v] (Rows.uptoBulk d) := by
  obtain ⟨fuel, hf⟩ := h
  have := hF H enc fuel _ _ hf
  rwa [hv] at this
theorem open_bl {t e : TypeId} {r : Reach} {b0 : Nat} {v : Value} {d : DataW H} {q : List MemPlace} (ht : P.underlying t = some (.slice e)) (he : P.underlying e = some (.int .u8)) (hk : P.cellsOf e = 1) (hv : Value.okWide P W r b0 t v) (h : DataW.Trod enc P W 0 (fun _ => true) true t v d q) :
    ∃ n p, Cb W v n p ∧ n + 1 ≤ Rows.uptoBulk d := by
  obtain ⟨a, len, cap, rfl⟩ := okWide_slice ht hv
  obtain ⟨v', n, p, h1, h2, h3⟩ := open_cell (r := r) (b0 := b0) (rdg_bytes ht he hk) rfl h
  cases h1
  exact ⟨n, p, h2, h3⟩
end
end Go.Proofs.Ytjianfhodjapgaa
namespace Go.Proofs.Ytjianfhodjapgaa
open Go.RowKit Go.ChangeShapes Go.WideShapes
set_option linter.unusedVariables false
set_option linter.unusedSimpArgs false
set_option maxRecDepth 100000
theorem match_snoc (l : List Att) {ask : List Att} {i : Nat} {x : Att} (h : ask[i]? = some x) : matchB l (ask.take (i + 1)) = (matchB l (ask.take i) && matchB l [x]) := by
  rw [List.take_add_one, h, match_app]; rfl
theorem match_split (l : List Att) {ask : List Att} {i : Nat} {x : Att} (h : ask[i]? = some x) : matchB l ask = (matchB l (ask.take i) && (matchB l [x] && matchB l (ask.drop (i + 1)))) := by
  have hi := (List.getElem?_eq_some_iff.1 h).1
  have e : ask.drop i = x :: ask.drop (i + 1) := by
    rw [List.drop_eq_getElem_cons hi]
    have := (List.getElem?_eq_some_iff.1 h).2
    rw [this]
  conv => lhs; rw [← List.take_append_drop i ask, match_app, e, match_cons]
theorem match_one_none {l : List Att} {x : Att} (h : l.findIdx? (fun y => y.1 == x.1) = none) : matchB l [x] = false := by
  simp only [matchB, List.all_cons, List.all_nil, Bool.and_true]
  rw [findIdx_find.2 h]
theorem match_one_some {l : List Att} {x y : Att} {j : Nat} (h : l.findIdx? (fun y => y.1 == x.1) = some j) (hy : l[j]? = some y) : matchB l [x] = (y.2.2 == x.2.2) := by
  simp only [matchB, List.all_cons, List.all_nil, Bool.and_true]
  obtain ⟨z, h1, h2⟩ := findIdx_find.1 j h
  rw [hy] at h1
  cases h1
  rw [h2]
set_option maxHeartbeats 8000000 in
theorem match_c (w : World) {u v : Value} {l ask : List Att} (hu : Ats w u l) (hv : Ats w v ask) : Calls Try.prog 29 [u, v].toArray w (Ret (.bool (matchB l ask)) w) := by
  haveI i0 := hu.old
  haveI i1 := hu.cs.old
  haveI i2 := hv.cs.old
  have hl63 : ask.length ≤ 9223372036854775807 := by obtain ⟨_, _, _, h1, h2, _⟩ := hv.cs.ln.out; simp only [maxLen] at h2; omega
  have hl64 : l.length ≤ 9223372036854775807 := by obtain ⟨_, _, _, h1, h2, _⟩ := hu.cs.ln.out; simp only [maxLen] at h2; omega
  have FC : ∀ {k : Int} w', Ats w' u l → Calls Try.prog 35 [u, .int .i64 k].toArray w' (Ret (.int .i64 (findI l k)) w') := fun w' h => find_c w' h
  obtain ⟨R, hR⟩ : ∃ R, R = matchB l ask := ⟨_, rfl⟩
  rw [← hR]
  refine fn_ret (N := _) Try.func29 rfl Try.ntmps29 Try.results29 (by simp) ?_
  simp only [initS, Nat.reduceAdd, Nat.zero_add]
  repeat' (first | (refine wlS ?_) | (refine wlB ?_) | (refine wlE ?_) | (refine efSvao ?_; intro v oa ho) | (refine efBnn ?_; intro n hn) | (refine efB ?_) | (refine efBS ?_) | (refine wl_skip rfl rfl ?_) | (refine wdS ?_) | (refine wdV ?_) | (refine wdB ?_) | (refine wdE ?_) | (refine wd_skip rfl rfl ?_) | ((with_reducible refine seld_nil ?_); refine wd_nil hm0 ?_; clear hm0 hw0) | ((with_reducible refine wc_seq ?_); intro K hK) | (refine auC ?_) | (refine wc_cond rfl (fun hc => ?_) (fun hc => ?_)) | (refine wc_draw (by kernel_rfl) (by kernel_rfl) (by decide +kernel) ?_; intro w0 hw0 hm0; (try simp only [List.append_eq, List.cons_append, List.nil_append])) | (refine auP ?_) | ((refine auR ?_); clear hK K) | (refine auR ?_) | ((with_reducible refine hK _ _ ?_); clear hK K) | fail)
  refine wc_loop (σ := Nat) (fun i => [(0, u), (8, v), (9, .int .i64 (ask.length : Int)), (10, .int .i64 (i : Int))]) (fun _ => [])
    (fun i => i ≤ ask.length ∧ matchB l (ask.take i) = true) (fun i => ask.length - i) 0 ⟨Nat.zero_le _, by simp [matchB]⟩ (Fits.of ⟨rfl, rfl, rfl, rfl, trivial⟩ .nil rfl) ?_
  rintro i ⟨hi, hm⟩
  by_cases hlt : i < ask.length
  · obtain ⟨x, hx⟩ : ∃ x, ask[i]? = some x := ⟨ask[i], List.getElem?_eq_getElem hlt⟩
    have hget := atsC_get hx
    have hsp := match_split l hx
    have hsn := match_snoc l hx
    rw [hm, Bool.true_and] at hsp hsn
    rw [← hR] at hsp
    have t1 : decide ((i : Int) < (ask.length : Int)) = true := decide_eq_true (by omega)
    have t2 : IntKind.i64.wrap ((i : Int) + 1) = ((i + 1 : Nat) : Int) := by rw [wrap_i64 _ (by omega) (by omega)]; omega
    have j1 : (i : Int) < (ask.length : Int) := by omega
    have bx := (hv.body _ (List.mem_of_getElem? hx)).old
    cases hf : l.findIdx? (fun y => y.1 == x.1) with
    | none =>
      have h1 := match_one_none hf
      rw [h1] at hsp
      have hRf : R = false := by rw [hsp]; rfl
      have FC1 := fun w' h => FC (k := x.1) w' h
      rw [findI, hf] at FC1
      dsimp only at FC1
      have t3 : decide ((-1 : Int) < 0) = true := rfl
      obtain ⟨z, vx, q⟩ := x
      dsimp only at *
      subst hRf
      clear FC hsp hsn h1 hf hu hv hR
      repeat' (first | (refine wlS ?_) | (refine wlB ?_) | ((with_reducible refine sel_call ?_); refine wl_rd rfl rfl (rd_call rfl rfl rfl (fun w hm => by with_reducible exact FC1 w (VwT.out w hm))) ?_) | (refine wlE ?_) | (refine efSvao ?_; intro v oa ho) | (refine efBnn ?_; intro n hn) | (refine efB ?_) | (refine efBS ?_) | (refine wl_skip rfl rfl ?_) | ((with_reducible refine wc_seq ?_); intro K hK) | (refine auC ?_) | (refine wc_cond rfl (fun hc => ?_) (fun hc => ?_)) | ((with_reducible refine wc_drawT (by kernel_rfl) ?_); (try simp only [List.append_eq, List.cons_append, List.nil_append, List.length_cons, List.length_nil, Nat.reduceAdd])) | ((with_reducible refine sel_wh ?_); (refine wh_if (by decide +kernel) ?_); first | (refine wh_take (lq := []) rfl rfl rfl rfl (by first | exact rvS | exact rvB | exact rvE) (Or.inl rfl) ?_) | (refine wh_takeL rfl rfl rfl rfl (by first | exact rvS | exact rvB | exact rvE) (by decide +kernel) ?_)) | (refine whS ?_; intro v hv hp) | ((with_reducible refine sel_wh ?_); first | (refine wh_pass rfl rfl rfl rfl ?_) | (refine wh_done rfl ?_) | (refine wh_all rfl ?_)) | ((with_reducible refine sel_rest ?_); first | exact rest_nil rfl | refine rest_cons rfl rfl ?_ ?_) | ((with_reducible refine sel_nx ?_); first | refine next_of ?_ | refine next_late (by decide +kernel) ?_) | (refine auP ?_) | ((refine auR ?_); clear hK K) | (refine auR ?_) | ((with_reducible refine hK _ _ ?_); clear hK K) | fail)
      first | refine end_ret (ResP.tmp rfl ResP.nil) ?_ | refine end_normal (ResP.tmp rfl ResP.nil) ?_
      first | rfl | (show _ = _; rfl) | (simp only [tupV, *]; done)
    | some j =>
      obtain ⟨y, hy, _⟩ := findIdx_find.1 j hf
      have h1 := match_one_some hf hy
      rw [h1] at hsp hsn
      have hjl := (List.getElem?_eq_some_iff.1 hy).1
      have by' := (hu.body _ (List.mem_of_getElem? hy)).old
      have hyv := atsC_val hy
      have FC1 := fun w' h => FC (k := x.1) w' h
      rw [findI, hf] at FC1
      dsimp only at FC1
      have t3 : decide ((j : Int) < 0) = false := decide_eq_false (by omega)
      have j2 : (j : Int) < (l.length : Int) := by omega
      obtain ⟨z, vx, q⟩ := x
      obtain ⟨z2, vy, r⟩ := y
      dsimp only at *
      by_cases hrq : (r == q) = true
      · rw [hrq] at hsn
        clear FC hsp h1 hf hu hv hR
        repeat' (first | (refine wlS ?_) | (refine wlB ?_) | ((with_reducible refine sel_call ?_); refine wl_rd rfl rfl (rd_call rfl rfl rfl (fun w hm => by with_reducible first | exact FC1 w (VwT.out w hm) | exact beq_r w (VwB.out w hm) (VwB.out w hm) (by with_reducible assumption))) ?_) | (refine wlE ?_) | (refine efSvao ?_; intro v oa ho) | (refine efBnn ?_; intro n hn) | (refine efB ?_) | (refine efBS ?_) | (refine wl_skip rfl rfl ?_) | ((with_reducible refine wc_seq ?_); intro K hK) | (refine auC ?_) | (refine wc_cond rfl (fun hc => ?_) (fun hc => ?_)) | ((with_reducible refine wc_drawT (by kernel_rfl) ?_); (try simp only [List.append_eq, List.cons_append, List.nil_append, List.length_cons, List.length_nil, Nat.reduceAdd])) | ((with_reducible refine sel_wh ?_); (refine wh_if (by decide +kernel) ?_); first | (refine wh_take (lq := []) rfl rfl rfl rfl (by first | exact rvS | exact rvB | exact rvE) (Or.inl rfl) ?_) | (refine wh_takeL rfl rfl rfl rfl (by first | exact rvS | exact rvB | exact rvE) (by decide +kernel) ?_)) | (refine whS ?_; intro v hv hp) | ((with_reducible refine sel_wh ?_); first | (refine wh_pass rfl rfl rfl rfl ?_) | (refine wh_done rfl ?_) | (refine wh_all rfl ?_)) | ((with_reducible refine sel_rest ?_); first | exact rest_nil rfl | refine rest_cons rfl rfl ?_ ?_) | ((with_reducible refine sel_nx ?_); first | refine next_of ?_ | refine next_late (by decide +kernel) ?_) | (refine auP ?_) | ((refine auR ?_); clear hK K) | (refine auR ?_) | ((with_reducible refine hK _ _ ?_); clear hK K) | fail)
        exact ⟨i + 1, ⟨hlt, hsn⟩, by omega, Fits.of ⟨rfl, rfl, rfl, rfl, trivial⟩ .nil rfl⟩
      · have hrq' : (r == q) = false := by simpa using hrq
        rw [hrq'] at hsp
        have hRf : R = false := by rw [hsp]; rfl
        subst hRf
        clear FC hsp hsn h1 hf hu hv hR hrq
        repeat' (first | (refine wlS ?_) | (refine wlB ?_) | ((with_reducible refine sel_call ?_); refine wl_rd rfl rfl (rd_call rfl rfl rfl (fun w hm => by with_reducible first | exact FC1 w (VwT.out w hm) | exact beq_r w (VwB.out w hm) (VwB.out w hm) (by with_reducible assumption))) ?_) | (refine wlE ?_) | (refine efSvao ?_; intro v oa ho) | (refine efBnn ?_; intro n hn) | (refine efB ?_) | (refine efBS ?_) | (refine wl_skip rfl rfl ?_) | ((with_reducible refine wc_seq ?_); intro K hK) | (refine auC ?_) | (refine wc_cond rfl (fun hc => ?_) (fun hc => ?_)) | ((with_reducible refine wc_drawT (by kernel_rfl) ?_); (try simp only [List.append_eq, List.cons_append, List.nil_append, List.length_cons, List.length_nil, Nat.reduceAdd])) | ((with_reducible refine sel_wh ?_); (refine wh_if (by decide +kernel) ?_); first | (refine wh_take (lq := []) rfl rfl rfl rfl (by first | exact rvS | exact rvB | exact rvE) (Or.inl rfl) ?_) | (refine wh_takeL rfl rfl rfl rfl (by first | exact rvS | exact rvB | exact rvE) (by decide +kernel) ?_)) | (refine whS ?_; intro v hv hp) | ((with_reducible refine sel_wh ?_); first | (refine wh_pass rfl rfl rfl rfl ?_) | (refine wh_done rfl ?_) | (refine wh_all rfl ?_)) | ((with_reducible refine sel_rest ?_); first | exact rest_nil rfl | refine rest_cons rfl rfl ?_ ?_) | ((with_reducible refine sel_nx ?_); first | refine next_of ?_ | refine next_late (by decide +kernel) ?_) | (refine auP ?_) | ((refine auR ?_); clear hK K) | (refine auR ?_) | ((with_reducible refine hK _ _ ?_); clear hK K) | fail)
        first | refine end_ret (ResP.tmp rfl ResP.nil) ?_ | refine end_normal (ResP.tmp rfl ResP.nil) ?_
        first | rfl | (show _ = _; rfl) | (simp only [tupV, *]; done)
  · obtain rfl : i = ask.length := by omega
    have t1 : decide ((ask.length : Int) < (ask.length : Int)) = false := decide_eq_false (by omega)
    rw [List.take_length] at hm
    have hRt : R = true := by rw [hR, hm]
    subst hRt
    clear FC hR hu hv
    repeat' (first | (refine wlS ?_) | (refine wlB ?_) | (refine wlE ?_) | (refine efSvao ?_; intro v oa ho) | (refine efBnn ?_; intro n hn) | (refine efB ?_) | (refine efBS ?_) | (refine wl_skip rfl rfl ?_) | (refine wdS ?_) | (refine wdV ?_) | (refine wdB ?_) | (refine wdE ?_) | (refine wd_skip rfl rfl ?_) | ((with_reducible refine seld_nil ?_); refine wd_nil hm0 ?_; clear hm0 hw0) | ((with_reducible refine wc_seq ?_); intro K hK) | (refine auC ?_) | (refine wc_cond rfl (fun hc => ?_) (fun hc => ?_)) | (refine wc_draw (by kernel_rfl) (by kernel_rfl) (by decide +kernel) ?_; intro w0 hw0 hm0; (try simp only [List.append_eq, List.cons_append, List.nil_append])) | (refine auP ?_) | ((refine auR ?_); clear hK K) | (refine auR ?_) | ((with_reducible refine hK _ _ ?_); clear hK K) | fail)
    first | refine end_ret (ResP.tmp rfl ResP.nil) ?_ | refine end_normal (ResP.tmp rfl ResP.nil) ?_
    first | rfl | (show _ = _; rfl) | (simp only [tupV, *]; done)
/-! ### What came in -/
section
variable {W : World}
theorem cells_att : Try.prog.cellsOf 49 = 2 := by kernel_rfl
theorem cells_u8a : Try.prog.cellsOf 5 = 1 := by kernel_rfl
theorem cells_inta : Try.prog.cellsOf 3 = 1 := by kernel_rfl
theorem cells_bsa : Try.prog.cellsOf 44 = 1 := by kernel_rfl
theorem rdg_bsa : Rdg Try.prog W 44 fun cs b => ∃ v n p, cs = [v] ∧ Cb W v n p ∧ n + 1 ≤ b := rdg_bytes (by kernel_rfl) (e := 5) (by kernel_rfl) cells_u8a
theorem rdg_att : Rdg Try.prog W 49 fun cs b => ∃ x : Att, cs = atC x ∧ Cb W x.2.1 x.2.2.length x.2.2 ∧ x.2.2.length + 2 ≤ b :=
  (rdg_struct2 Try.underlying49 (rdg_int (k := .i64) (by kernel_rfl)) rdg_bsa).mono fun cs b ⟨b0, b1, hl, h0, h1, hb⟩ => by
    rw [cells_att] at hl
    obtain ⟨c0, c1, rfl⟩ : ∃ c0 c1, cs = [c0, c1] := by
      match cs, hl with | [c0, c1], _ => exact ⟨c0, c1, rfl⟩
    dsimp only at h0 h1
    rw [cells_inta] at h0
    rw [cells_bsa] at h1
    obtain ⟨z, hz, hw⟩ := h0
    obtain ⟨v, n, p, hv, hc, hn⟩ := h1
    simp at hz hv
    subst hz; subst hv
    have hlen := hc.ok.len
    subst hlen
    exact ⟨(z, c1, p), rfl, hc, by dsimp only; omega⟩
theorem open_atts {r : Reach} {b0 : Nat} {v : Value} {H : Type} {enc : TypeId × Value → H} {d : DataW H} {q : List MemPlace} (hv : Value.okWide Try.prog W r b0 29 v) (h : DataW.Trod enc Try.prog W 0 (fun _ => true) true 29 v d q) :
    ∃ l : List Att, Ats W v l ∧ l.length + 1 ≤ Rows.uptoBulk d := by
  obtain ⟨a, len, cap, rfl⟩ := okWide_slice (e := 49) (by kernel_rfl) hv
  obtain ⟨v', n, cc, h1, h2, h3, h4, h5⟩ := open_cell (r := r) (b0 := b0) (rdg_slice (e := 49) (by kernel_rfl) cells_att (by decide) rdg_att) rfl h
  cases h1
  have key : ∀ l : List (List Value × Nat), (∀ c ∈ l, (∃ x : Att, c.1 = atC x ∧ Cb W x.2.1 x.2.2.length x.2.2 ∧ x.2.2.length + 2 ≤ c.2) ∧ c.1.length = 2) → ∃ its : List Att, (l.map (·.1)).flatten = atsC its ∧ its.length = l.length ∧ (∀ x ∈ its, Cb W x.2.1 x.2.2.length x.2.2) ∧ l.length ≤ (l.map (·.2)).sum := by
    intro l
    induction l with
    | nil => intro _; exact ⟨[], rfl, rfl, by simp, by simp⟩
    | cons c r ih =>
      intro h
      obtain ⟨its, e1, e2, e3, e4⟩ := ih fun d hd => h d (by simp [hd])
      obtain ⟨⟨x, f1, f2, f4⟩, _⟩ := h c (by simp)
      refine ⟨x :: its, ?_, by simp [e2], fun y hy => ?_, by simp only [List.map_cons, List.sum_cons, List.length_cons]; omega⟩
      · rw [List.map_cons, List.flatten_cons, e1, f1]; simp [atsC]
      · rcases List.mem_cons.1 hy with rfl | hy
        · exact f2
        · exact e3 y hy
  obtain ⟨its, e1, e2, e3, e4⟩ := key cc h3
  rw [e1] at h4
  refine ⟨its, ⟨?_, e3⟩, by omega⟩
  rw [e2, h2]; exact h4
end
end Go.Proofs.Ytjianfhodjapgaa
namespace Go.Proofs.Ytjianfhodjapgaa
open Go.RowKit
set_option linter.unusedVariables false
set_option linter.unusedSimpArgs false
set_option maxRecDepth 100000
/-- The kind and the bytes. -/
def abs (l : List Att) : List Ab := l.map fun x => (x.1, x.2.2)
end Go.Proofs.Ytjianfhodjapgaa
namespace Go.Proofs.Ytjianfhodjapgaa
open Go.RowKit
set_option linter.unusedVariables false
set_option linter.unusedSimpArgs false
set_option maxRecDepth 100000
/-- Which were there. -/
def ths (S : List Int) : Array Value := ((List.range 19).map fun (i : Nat) => Value.bool (decide (((i : Nat) : Int) ∈ S))).toArray
theorem ths_get (S : List Int) {i : Nat} (h : i < 19) : (ths S)[i]? = some (.bool (decide ((i : Int) ∈ S))) := by simp [ths, h]
instance (S : List Int) : Cells (ths S) 19 := ⟨by simp [ths], by simp [ths, Value.oneCell']⟩
theorem ths_put (S : List Int) {i : Nat} (h : i < 19) : putC (ths S) i (.bool true) = ths ((i : Int) :: S) := by
  apply Array.ext
  · simp [putC, ths]
  · intro j h1 h2
    simp only [putC, ths, List.setIfInBounds_toArray, List.getElem_toArray, List.getElem_set, List.getElem_map, List.getElem_range, List.mem_cons]
    by_cases e : i = j
    · subst e; simp
    · have : ¬ (j : Int) = (i : Int) := by omega
      simp [e, this]
attribute [irreducible] ths
end Go.Proofs.Ytjianfhodjapgaa
namespace Go.Proofs.Ytjianfhodjapgaa
open Go.RowKit
set_option linter.unusedVariables false
set_option linter.unusedSimpArgs false
set_option maxRecDepth 100000
instance hold_and {X : Cx} {l : Blks} {Φ Ψ : World → Prop} [h : Hold X l Φ] [h' : Hold X l Ψ] : Hold X l (fun w => Φ w ∧ Ψ w) := ⟨fun w hm => ⟨h.out w hm, h'.out w hm⟩⟩
/-- The values of attributes, the same in all worlds of which Ψ is told. -/
def BodF (Ψ : World → Prop) (l : List Att) : Prop := ∀ x ∈ l, (BL x.2.2.length x.2.2 ∧ Ln x.2.1 x.2.2.length) ∧ ∀ w, Ψ w → Cs w x.2.1 x.2.2.length (bl x.2.2)
theorem BodF.nil {Ψ : World → Prop} : BodF Ψ [] := fun x hx => by cases hx
theorem BodF.app {a b : Blks} {l m : List Att} (h : BodF (Hd a) l) (h' : BodF (Hd b) m) : BodF (Hd (a ++ b)) (l ++ m) := fun x hx => by
  rcases List.mem_append.1 hx with hx | hx
  · obtain ⟨h1, h3⟩ := h x hx; exact ⟨h1, fun w hw => h3 w hw.left⟩
  · obtain ⟨h1, h3⟩ := h' x hx; exact ⟨h1, fun w hw => h3 w hw.right⟩
theorem BodF.one {k : Int} {v : Value} {e n : Nat} {q : List Nat} {oa : Blks} (h : OwnB e v n q oa) : BodF (Hd oa) [(k, v, q)] := fun x hx => by
  simp only [List.mem_singleton] at hx
  subst hx
  obtain rfl : n = q.length := h.ok.len.symm
  exact ⟨⟨h.ok, h.own.ln⟩, fun w hw => h.own.cs.out w hw⟩
theorem BodF.perm {Ψ : World → Prop} {l m : List Att} (hp : m.Perm l) (h : BodF Ψ l) : BodF Ψ m := fun x hx => h x (hp.mem_iff.1 hx)
theorem BodF.one' {Ψ : World → Prop} {l : List Att} (h : BodF Ψ l) : ∀ x ∈ l, x.2.1.oneCell' = true := fun x hx => by
  obtain ⟨_, _, hv, _⟩ := (h x hx).1.2.out
  rw [hv]; rfl
theorem BodF.sub {Ψ : World → Prop} {l m : List Att} (hp : ∀ x ∈ m, x ∈ l) (h : BodF Ψ l) : BodF Ψ m := fun x hx => h x (hp x hx)
theorem Ats.bodF {W : World} {v : Value} {l : List Att} (h : Ats W v l) : BodF (Old W []) l := fun x hx => ⟨⟨(h.body x hx).ok, (h.body x hx).cs.ln⟩, fun w hw => (h.body x hx).cs.old.out w hw⟩
theorem AtF.mk' {Φ Ψ : World → Prop} {v : Value} {l : List Att} (h : CsF Φ v l.length (atsC l)) (h' : BodF Ψ l) : AtF (fun w => Φ w ∧ Ψ w) v l :=
  ⟨⟨h.ln, fun w hw => h.out w hw.1⟩, fun w hw => ⟨h.out w hw.1, fun x hx => ⟨(h' x hx).2 w hw.2, (h' x hx).1.1⟩⟩⟩
/-- Such a slice. -/
structure OwnT (v : Value) (l : List Att) (oa : Blks) : Prop where
  out : ∃ oo ob, (∀ q ∈ oo ++ ob, q ∈ oa) ∧ OwnL 49 2 v l.length (atsC l) oo ∧ BodF (Hd ob) l
theorem OwnT.cs {v : Value} {l : List Att} {oa : Blks} (h : OwnT v l oa) : CsF (Hd oa) v l.length (atsC l) := by
  obtain ⟨oo, ob, hs, h1, h2⟩ := h.out
  exact ⟨h1.ln, fun w hw => h1.cs.out w fun q hq => hw q (hs q (List.mem_append_left _ hq))⟩
theorem OwnT.bod {v : Value} {l : List Att} {oa : Blks} (h : OwnT v l oa) : BodF (Hd oa) l := by
  obtain ⟨oo, ob, hs, h1, h2⟩ := h.out
  exact fun x hx => ⟨(h2 x hx).1, fun w hw => (h2 x hx).2 w fun q hq => hw q (hs q (List.mem_append_right _ hq))⟩
theorem OwnT.atf {v : Value} {l : List Att} {oa : Blks} (h : OwnT v l oa) : AtF (Hd oa) v l :=
  ⟨h.cs, fun w hw => ⟨h.cs.out w hw, fun x hx => ⟨(h.bod x hx).2 w hw, (h.bod x hx).1.1⟩⟩⟩
theorem OwnT.nil : OwnT (.slice none 0 0) [] [] := ⟨[], [], fun q h => h, OwnL.nil _ _, BodF.nil⟩
theorem OwnT.ln {v : Value} {l : List Att} {oa : Blks} (h : OwnT v l oa) : Ln v l.length := h.atf.cs.ln
theorem ats_one {w : World} {v : Value} {l : List Att} (h : Ats w v l) : ∀ x ∈ l, x.2.1.oneCell' = true := fun x hx => by
  obtain ⟨_, _, hv, _⟩ := (h.body x hx).cs.ln.out
  rw [hv]; rfl
theorem abs_len (l : List Att) : (abs l).length = l.length := by simp [abs]
theorem abs_app (l m : List Att) : abs (l ++ m) = abs l ++ abs m := by simp [abs]
/-- What is normal. -/
structure IsNorm (m l : List Ab) : Prop where
  rises : Rises m
  perm : m.Perm l
theorem IsNorm.only {m m' l : List Ab} (h : IsNorm m l) (h' : IsNorm m' l) : m = m' := rises_only h.rises h'.rises (h.perm.trans h'.perm.symm)
end Go.Proofs.Ytjianfhodjapgaa
namespace Go.Proofs.Ytjianfhodjapgaa
open Go.RowKit
set_option linter.unusedVariables false
section
variable {X : Cx} {s : Slots} {l : Blks} {o : Oper}
theorem rd_eqlG {t yt : Nat} {x y : Operand} {p : Option Addr} {n c : Nat} {v : Value} {r : Bool} (ho : o.op = .binOp .eql t x y yt) (hx : val s x = some (.slice p n c)) (hy : val s y = some v)
    (q : ∀ w : World, (binOp .eql t (.slice p n c) v).run X.P w = .ok (.bool r) w) : RdV X s l o (.bool r) :=
  rd_val fun e w he hm => by
    simp only [execOp, ho, he.eval hx, he.eval hy, eqGuard]
    simp [q w]
theorem rd_neqG {t yt : Nat} {x y : Operand} {p : Option Addr} {n c : Nat} {v : Value} {r : Bool} (ho : o.op = .binOp .neq t x y yt) (hx : val s x = some (.slice p n c)) (hy : val s y = some v)
    (q : ∀ w : World, (binOp .neq t (.slice p n c) v).run X.P w = .ok (.bool r) w) : RdV X s l o (.bool r) :=
  rd_val fun e w he hm => by
    simp only [execOp, ho, he.eval hx, he.eval hy, eqGuard]
    simp [q w]
end
theorem sl_nil {P : Program} {t e : Nat} (h : P.underlying t = some (.slice e)) {p : Option Addr} {n c : Nat} (w : World) : (binOp .eql t (.slice p n c) (.slice none 0 0)).run P w = .ok (.bool p.isNone) w := by
  refine run_eql (r := p.isNone) w rfl ?_
  rw [show (10000 : Nat) = 9999 + 1 from rfl, Op.equalIn, Sem.run_bind, run_underlying h]
  cases p <;> rfl
theorem sl_nonil {P : Program} {t e : Nat} (h : P.underlying t = some (.slice e)) {p : Option Addr} {n c : Nat} (w : World) : (binOp .neq t (.slice p n c) (.slice none 0 0)).run P w = .ok (.bool (!p.isNone)) w := by
  refine run_neq (r := p.isNone) w rfl ?_
  rw [show (10000 : Nat) = 9999 + 1 from rfl, Op.equalIn, Sem.run_bind, run_underlying h]
  cases p <;> rfl
end Go.Proofs.Ytjianfhodjapgaa
namespace Go.Proofs.Ytjianfhodjapgaa
open Go.RowKit
set_option linter.unusedVariables false
set_option linter.unusedSimpArgs false
set_option maxRecDepth 100000 in
set_option maxHeartbeats 4000000 in
theorem clone_b (w : World) {v : Value} {m : Nat} {p : List Nat} (h : Cb w v m p) (hm : m ≤ 1099511627776) :
    Calls Try.prog 32 [v].toArray w (RetO (fun u => u) (fun u oa => OwnB 5 u m p oa) w) := by
  have i1 := h.old
  obtain ⟨q, c, rfl, h1, h2, h3⟩ := h.cs.ln.out
  cases q with
  | none =>
    have hm0 : m = 0 := by
      rcases Nat.eq_zero_or_pos m with h0 | h0
      · exact h0
      · obtain ⟨_, _, hh⟩ := h3 h0; cases hh
    have hd0 : p = [] := List.eq_nil_of_length_eq_zero (by rw [h.ok.len, hm0])
    have E : ∀ w', (binOp .eql 44 (.slice none m c) (.slice none 0 0)).run Try.prog w' = .ok (.bool true) w' := fun w' => sl_nil (e := 5) (by kernel_rfl) w'
    clear h h3
    subst hm0; subst hd0
    refine fn_own (N := _) Try.func32 rfl Try.ntmps32 Try.results32 (by simp) ?_
    simp only [initS, Nat.reduceAdd, Nat.zero_add]
    repeat' (first | (refine wlS ?_) | (refine wlB ?_) | ((with_reducible refine sel_b_eql ?_); refine wv rfl rfl (rd_eqlG rfl rfl rfl (by with_reducible exact E)) ?_) | (refine wlE ?_) | (refine efSvao ?_; intro v oa ho) | (refine wl_skip rfl rfl ?_) | ((with_reducible refine wc_seq ?_); intro K hK) | (refine auC ?_) | (refine wc_cond rfl (fun hc => ?_) (fun hc => ?_)) | (refine wc_draw (by kernel_rfl) (by kernel_rfl) (by decide +kernel) ?_; intro w0 hw0 hm0; (try simp only [List.append_eq, List.cons_append, List.nil_append])) | (refine auP ?_) | ((refine auR ?_); clear hK K) | (refine auR ?_) | ((with_reducible refine hK _ _ ?_); clear hK K) | fail)
    first | refine end_ret (ResP.tmp rfl ResP.nil) ?_ | refine end_normal (ResP.tmp rfl ResP.nil) ?_
    (try dsimp only [tupV])
    exact ⟨_, _, rfl, ⟨OwnL.nil _ _, BL.nil⟩, .nil⟩
  | some a =>
    have E : ∀ w', (binOp .eql 44 (.slice (some a) m c) (.slice none 0 0)).run Try.prog w' = .ok (.bool false) w' := fun w' => sl_nil (e := 5) (by kernel_rfl) w'
    have hok := h.ok
    have hbl : (bl p).length = m * 1 := by rw [bl_len, h.ok.len, Nat.mul_one]
    clear h h3
    refine fn_own (N := _) Try.func32 rfl Try.ntmps32 Try.results32 (by simp) ?_
    simp only [initS, Nat.reduceAdd, Nat.zero_add]
    repeat' (first | (refine wlS ?_) | (refine wlB ?_) | ((with_reducible refine sel_b_eql ?_); refine wv rfl rfl (rd_eqlG rfl rfl rfl (by with_reducible exact E)) ?_) | (refine wlE ?_) | (refine efSvao ?_; intro v oa ho) | (refine wl_skip rfl rfl ?_) | ((with_reducible refine wc_seq ?_); intro K hK) | (refine auC ?_) | (refine wc_cond rfl (fun hc => ?_) (fun hc => ?_)) | (refine wc_draw (by kernel_rfl) (by kernel_rfl) (by decide +kernel) ?_; intro w0 hw0 hm0; (try simp only [List.append_eq, List.cons_append, List.nil_append])) | (refine auP ?_) | ((refine auR ?_); clear hK K) | (refine auR ?_) | ((with_reducible refine hK _ _ ?_); clear hK K) | fail)
    first | refine end_ret (ResP.tmp rfl ResP.nil) ?_ | refine end_normal (ResP.tmp rfl ResP.nil) ?_
    (try dsimp only [tupV])
    first
    | exact ⟨_, _, rfl, by simpa using ho, SubL.refl _⟩
    | exact ⟨_, _, rfl, ⟨by simpa using ho, hok⟩, SubL.refl _⟩
end Go.Proofs.Ytjianfhodjapgaa
namespace Go.Proofs.Ytjianfhodjapgaa
open Go.RowKit
set_option linter.unusedVariables false
set_option linter.unusedSimpArgs false
set_option maxRecDepth 100000
/-- The value of a kind. -/
def getA (l : List Ab) (k : Int) : Option (List Nat) := (l.find? fun x => x.1 == k).map (·.2)
def isA (l : List Ab) (k : Int) : Bool := getA l k == some [1]
def hiddenB (l : List Ab) : Bool := isA l 8 || ((getA l 9).isSome && !isA l 9)
theorem find_abs (l : List Att) (k : Int) : getA (abs l) k = (l.find? fun x => x.1 == k).map (·.2.2) := by
  unfold getA abs
  rw [List.find?_map, Option.map_map]
  rfl
theorem getA_none {l : List Att} {k : Int} (h : getA (abs l) k = none) : findI l k = -1 := by
  rw [find_abs, Option.map_eq_none_iff] at h
  cases hx : l.findIdx? (fun x => x.1 == k) with
  | none => rw [findI, hx]
  | some i =>
    obtain ⟨y, _, h2⟩ := findIdx_find.1 i hx
    rw [h] at h2; cases h2
theorem getA_some {l : List Att} {k : Int} {q : List Nat} (h : getA (abs l) k = some q) : ∃ j y, findI l k = ((j : Nat) : Int) ∧ l[j]? = some y ∧ y.2.2 = q ∧ y.1 = k := by
  rw [find_abs, Option.map_eq_some_iff] at h
  obtain ⟨y, hy, rfl⟩ := h
  cases hx : l.findIdx? (fun x => x.1 == k) with
  | none => rw [findIdx_find.2 hx] at hy; cases hy
  | some i =>
    obtain ⟨z, h1, h2⟩ := findIdx_find.1 i hx
    rw [h2] at hy; cases hy
    exact ⟨i, _, by rw [findI, hx], h1, rfl, by simpa using List.find?_some h2⟩
set_option maxHeartbeats 4000000 in
theorem get_no (w : World) {u : Value} {l : List Att} {k : Int} (h : Ats w u l) (hk : getA (abs l) k = none) : Calls Try.prog 27 [u, .int .i64 k].toArray w (Ret (.tuple #[.slice none 0 0, .bool false]) w) := by
  haveI := h.old
  haveI := h.cs.old
  have FC : ∀ w', Ats w' u l → Calls Try.prog 35 [u, .int .i64 k].toArray w' (Ret (.int .i64 (-1)) w') := fun w' h => by
    have := find_c w' (k := k) h
    rwa [getA_none hk] at this
  have t1 : decide ((-1 : Int) < 0) = true := rfl
  clear h
  refine fn_ret (N := _) Try.func27 rfl Try.ntmps27 Try.results27 (by simp) ?_
  simp only [initS, Nat.reduceAdd, Nat.zero_add]
  repeat' (first | (refine wlS ?_) | (refine wlB ?_) | ((with_reducible refine sel_call ?_); refine wl_rd rfl rfl (rd_call rfl rfl rfl (fun w hm => by with_reducible exact FC w (VwT.out w hm))) ?_) | (refine wlE ?_) | (refine efSvao ?_; intro v oa ho) | (refine wl_skip rfl rfl ?_) | ((with_reducible refine wc_seq ?_); intro K hK) | (refine auC ?_) | (refine wc_cond rfl (fun hc => ?_) (fun hc => ?_)) | (refine wc_draw (by kernel_rfl) (by kernel_rfl) (by decide +kernel) ?_; intro w0 hw0 hm0; (try simp only [List.append_eq, List.cons_append, List.nil_append])) | (refine auP ?_) | ((refine auR ?_); clear hK K) | (refine auR ?_) | ((with_reducible refine hK _ _ ?_); clear hK K) | fail)
  first | refine end_ret (ResP.tmp rfl (ResP.tmp rfl ResP.nil)) ?_ | refine end_normal (ResP.tmp rfl (ResP.tmp rfl ResP.nil)) ?_
  first | rfl | (show _ = _; rfl) | (simp only [tupV, *]; done)
set_option maxHeartbeats 4000000 in
theorem get_yes (w : World) {u : Value} {l : List Att} {k : Int} {q : List Nat} (h : Ats w u l) (hk : getA (abs l) k = some q) (hq : q.length ≤ 1099511627776) : Calls Try.prog 27 [u, .int .i64 k].toArray w (RetO (fun v : Value => .tuple #[v, .bool true]) (fun v oa => OwnB 5 v q.length q oa) w) := by
  haveI := h.old
  haveI := h.cs.old
  obtain ⟨j, ⟨z, vy, r⟩, h1, h2, rfl, rfl⟩ := getA_some hk
  dsimp only at *
  have FC : ∀ w', Ats w' u l → Calls Try.prog 35 [u, .int .i64 z].toArray w' (Ret (.int .i64 (j : Int)) w') := fun w' h => by
    have := find_c w' (k := z) h
    rwa [h1] at this
  have CL : ∀ w' {v : Value}, Cb w' v r.length r → Calls Try.prog 32 [v].toArray w' (RetO (fun u => u) (fun u oa => OwnB 5 u r.length r oa) w') := fun w' {v} h => clone_b w' h hq
  have hjl := (List.getElem?_eq_some_iff.1 h2).1
  have hl63 : l.length ≤ 9223372036854775807 := by obtain ⟨_, _, _, h1, h2, _⟩ := h.cs.ln.out; simp only [maxLen] at h2; omega
  have by' := (h.body _ (List.mem_of_getElem? h2)).old
  have hyv := atsC_val h2
  have t1 : decide ((j : Int) < 0) = false := decide_eq_false (by omega)
  have j2 : (j : Int) < (l.length : Int) := by omega
  dsimp only at by' hyv
  clear h hk h1 h2
  refine fn_own (N := _) Try.func27 rfl Try.ntmps27 Try.results27 (by simp) ?_
  simp only [initS, Nat.reduceAdd, Nat.zero_add]
  repeat' (first | (refine wlS ?_) | (refine wlB ?_) | ((with_reducible refine sel_call ?_); refine wl_rd rfl rfl (rd_call rfl rfl rfl (fun w hm => by with_reducible exact FC w (VwT.out w hm))) ?_) | (refine wlE ?_) | (refine efSvao ?_; intro v oa ho) | ((with_reducible refine sel_call ?_); first | (refine wl_newO rfl rfl rfl rfl rfl (fun w hm => by with_reducible exact CL w (VwB.out w hm)) ?_; intro x oa hx)) | (refine wl_skip rfl rfl ?_) | ((with_reducible refine wc_seq ?_); intro K hK) | (refine auC ?_) | (refine wc_cond rfl (fun hc => ?_) (fun hc => ?_)) | (refine wc_draw (by kernel_rfl) (by kernel_rfl) (by decide +kernel) ?_; intro w0 hw0 hm0; (try simp only [List.append_eq, List.cons_append, List.nil_append])) | (refine auP ?_) | ((refine auR ?_); clear hK K) | (refine auR ?_) | ((with_reducible refine hK _ _ ?_); clear hK K) | fail)
  first | refine end_ret (ResP.tmp rfl (ResP.tmp rfl ResP.nil)) ?_ | refine end_normal (ResP.tmp rfl (ResP.tmp rfl ResP.nil)) ?_
  (try dsimp only [tupV])
  exact ⟨_, _, rfl, hx, SubL.refl _⟩
set_option maxHeartbeats 8000000 in
theorem is_c (w : World) {u : Value} {l : List Att} {k : Int} {r : Bool} (h : Ats w u l) (hr : isA (abs l) k = r) : Calls Try.prog 28 [u, .int .i64 k].toArray w (Ret (.bool r) w) := by
  haveI := h.old
  haveI := h.cs.old
  cases hk : getA (abs l) k with
  | none =>
    have FC : ∀ w', Ats w' u l → Calls Try.prog 35 [u, .int .i64 k].toArray w' (Ret (.int .i64 (-1)) w') := fun w' h => by
      have := find_c w' (k := k) h
      rwa [getA_none hk] at this
    have t1 : decide ((-1 : Int) ≥ 0) = false := rfl
    obtain rfl : r = false := by rw [← hr, isA, hk]; rfl
    clear h hr
    refine fn_ret (N := _) Try.func28 rfl Try.ntmps28 Try.results28 (by simp) ?_
    simp only [initS, Nat.reduceAdd, Nat.zero_add]
    repeat' (first | (refine wlS ?_) | (refine wlB ?_) | ((with_reducible refine sel_call ?_); refine wl_rd rfl rfl (rd_call rfl rfl rfl (fun w hm => by with_reducible exact FC w (VwT.out w hm))) ?_) | (refine wlE ?_) | (refine efSvao ?_; intro v oa ho) | (refine wl_skip rfl rfl ?_) | ((with_reducible refine wc_seq ?_); intro K hK) | (refine auC ?_) | (refine wc_cond rfl (fun hc => ?_) (fun hc => ?_)) | (refine wc_draw (by kernel_rfl) (by kernel_rfl) (by decide +kernel) ?_; intro w0 hw0 hm0; (try simp only [List.append_eq, List.cons_append, List.nil_append])) | (refine auP ?_) | ((refine auR ?_); clear hK K) | (refine auR ?_) | ((with_reducible refine hK _ _ ?_); clear hK K) | fail)
    first | refine end_ret (ResP.tmp rfl ResP.nil) ?_ | refine end_normal (ResP.tmp rfl ResP.nil) ?_
    first | rfl | (show _ = _; rfl) | (simp only [tupV, *]; done)
  | some q =>
    obtain ⟨j, ⟨z, vy, p⟩, h1, h2, rfl, rfl⟩ := getA_some hk
    dsimp only at *
    have FC : ∀ w', Ats w' u l → Calls Try.prog 35 [u, .int .i64 z].toArray w' (Ret (.int .i64 (j : Int)) w') := fun w' h => by
      have := find_c w' (k := z) h
      rwa [h1] at this
    have hjl := (List.getElem?_eq_some_iff.1 h2).1
    have hl63 : l.length ≤ 9223372036854775807 := by obtain ⟨_, _, _, h1, h2, _⟩ := h.cs.ln.out; simp only [maxLen] at h2; omega
    have by' := (h.body _ (List.mem_of_getElem? h2)).old
    have hyv := atsC_val h2
    have t1 : decide ((j : Int) ≥ 0) = true := decide_eq_true (by omega)
    have j2 : (j : Int) < (l.length : Int) := by omega
    dsimp only at by' hyv
    rw [isA, hk] at hr
    clear h hk h1 h2
    by_cases hp : p.length = 1
    · obtain ⟨b, rfl⟩ := List.length_eq_one_iff.1 hp
      have t2 : ((([b].length : Nat) : Int) == 1) = true := rfl
      have g0 : (bl [b])[0]? = some (.int .u8 (b : Int)) := rfl
      have t3 : ((b : Int) == 1) = r := by
        rw [← hr, Bool.eq_iff_iff]
        simp only [beq_iff_eq, Option.some.injEq, List.cons.injEq, and_true]
        omega
      clear hr
      refine fn_ret (N := _) Try.func28 rfl Try.ntmps28 Try.results28 (by simp) ?_
      simp only [initS, Nat.reduceAdd, Nat.zero_add]
      repeat' (first | (refine wlS ?_) | (refine wlB ?_) | ((with_reducible refine sel_call ?_); refine wl_rd rfl rfl (rd_call rfl rfl rfl (fun w hm => by with_reducible exact FC w (VwT.out w hm))) ?_) | (refine wlE ?_) | (refine efSvao ?_; intro v oa ho) | (refine wl_skip rfl rfl ?_) | ((with_reducible refine wc_seq ?_); intro K hK) | (refine auC ?_) | (refine wc_cond rfl (fun hc => ?_) (fun hc => ?_)) | (refine wc_draw (by kernel_rfl) (by kernel_rfl) (by decide +kernel) ?_; intro w0 hw0 hm0; (try simp only [List.append_eq, List.cons_append, List.nil_append])) | (refine auP ?_) | ((refine auR ?_); clear hK K) | (refine auR ?_) | ((with_reducible refine hK _ _ ?_); clear hK K) | fail)
      first | refine end_ret (ResP.tmp rfl ResP.nil) ?_ | refine end_normal (ResP.tmp rfl ResP.nil) ?_
      first | rfl | (show _ = _; rfl) | (simp only [tupV, *]; done)
    · have t2 : ((p.length : Int) == 1) = false := by simp only [beq_eq_false_iff_ne, ne_eq]; omega
      obtain rfl : r = false := by
        rw [← hr, beq_eq_false_iff_ne]
        intro e
        have := Option.some.inj e
        rw [this] at hp; exact hp rfl
      clear hr
      refine fn_ret (N := _) Try.func28 rfl Try.ntmps28 Try.results28 (by simp) ?_
      simp only [initS, Nat.reduceAdd, Nat.zero_add]
      repeat' (first | (refine wlS ?_) | (refine wlB ?_) | ((with_reducible refine sel_call ?_); refine wl_rd rfl rfl (rd_call rfl rfl rfl (fun w hm => by with_reducible exact FC w (VwT.out w hm))) ?_) | (refine wlE ?_) | (refine efSvao ?_; intro v oa ho) | (refine wl_skip rfl rfl ?_) | ((with_reducible refine wc_seq ?_); intro K hK) | (refine auC ?_) | (refine wc_cond rfl (fun hc => ?_) (fun hc => ?_)) | (refine wc_draw (by kernel_rfl) (by kernel_rfl) (by decide +kernel) ?_; intro w0 hw0 hm0; (try simp only [List.append_eq, List.cons_append, List.nil_append])) | (refine auP ?_) | ((refine auR ?_); clear hK K) | (refine auR ?_) | ((with_reducible refine hK _ _ ?_); clear hK K) | fail)
      first | refine end_ret (ResP.tmp rfl ResP.nil) ?_ | refine end_normal (ResP.tmp rfl ResP.nil) ?_
      first | rfl | (show _ = _; rfl) | (simp only [tupV, *]; done)
end Go.Proofs.Ytjianfhodjapgaa
