/- Maps keyed by int: blocks that are maps or iterators; the operations on them. Maps keyed by int: the operations in the walk over lists. A desk of sessions: plain laws. Calls that write blocks which they are given. The core. The package login, walked. The package login, walked: Close, Open, New. The package login, walked: Login. The package login: one contract for each method; what holds of every desk stays. A desk stays a desk. sealringkeep.sit, walked. -/
import Derived.Test.YthljhaioblcgfaaOwnB
import Derived.MapKept
import Derived.Maps.RangeRun
import Derived.Test.YthljhaioblcgfaaTyS
import Derived.Test.YthljhaioblcgfaaLwH
namespace Go.Proofs.Ythljhaioblcgfaa
open Go.RowKit
set_option linter.unusedVariables false
set_option linter.unusedSimpArgs false
/-- An entry: key, value, stamp. -/
abbrev Ent := Int × Value × Nat
def entE (x : Ent) : MapEntry := ⟨.int .i64 x.1, x.2.1, x.2.2⟩
def entV (x : Ent) : Value := .agg #[.int .i64 x.1, x.2.1, .int .i64 (x.2.2 : Int)]
/-- A block that is a map. -/
def mapB (m : List Ent) (clock : Nat) : Array Value × TypeId := ((m.map entV).toArray, BIG + 2 * clock)
/-- A block that is the iterator of a map. -/
def iterB (g since : Nat) (seen : List Nat) (step : Nat) : Array Value × TypeId :=
  ((Value.int .i64 (g : Int) :: Value.int .i64 (since : Int) :: seen.map fun (b : Nat) => Value.int .i64 (b : Int)).toArray, BIG + 2 * step + 1)
theorem not_big (n : Nat) : Nat.blt (BIG + n) BIG = false := by
  cases h : Nat.blt (BIG + n) BIG with
  | false => rfl
  | true => have := Nat.le_of_ble_eq_true (show Nat.ble (BIG + n + 1) BIG = true from h); omega
theorem toObj_map (m : List Ent) (clock : Nat) : toObj (mapB m clock) = .map (m.map entE).toArray clock := by
  unfold toObj mapB
  have h0 := not_big (2 * clock)
  generalize BIG = B at *
  have h1 : B + 2 * clock - B = 2 * clock := by omega
  have h2 : (2 * clock % 2 == 0) = true := by simp
  have h3 : 2 * clock / 2 = clock := by omega
  dsimp only
  rw [h0, h1, h2, h3, cond_false, cond_true]
  congr 1
  rw [List.map_toArray, List.map_map]
  congr 1
theorem toObj_iter (g since : Nat) (seen : List Nat) (step : Nat) : toObj (iterB g since seen step) = .mapIter (some g) since seen.toArray step := by
  unfold toObj iterB
  have h0 := not_big (2 * step + 1)
  rw [← Nat.add_assoc] at h0
  generalize BIG = B at *
  have h1 : B + 2 * step + 1 - B = 2 * step + 1 := by omega
  have h2 : ((2 * step + 1) % 2 == 0) = false := by simp
  have h3 : (2 * step + 1) / 2 = step := by omega
  dsimp only
  rw [h0, h1, h2, h3, cond_false, cond_false]
  congr 1
  simp [unV, List.extract]
  simp [Function.comp_def, unV]
/-! ### What stands there -/
def mfind (k : Int) : List Ent → Nat → Option (Nat × Value)
  | [], _ => none
  | x :: r, i => bif k == x.1 then some (i, x.2.1) else mfind k r (i + 1)
def mget (m : List Ent) (k : Int) : Option Value := (mfind k m 0).map (·.2)
def mset (m : List Ent) (k : Int) (v : Value) (clock : Nat) : List Ent × Nat := match mfind k m 0 with
  | some (i, _) => (m.modify i fun x => (k, v, x.2.2), clock)
  | none => (m ++ [(k, v, clock)], clock + 1)
def mdel (m : List Ent) (k : Int) : List Ent := match mfind k m 0 with
  | some (i, _) => m.eraseIdx i
  | none => m
theorem findNow_m {q : IntKind} (k : Int) : ∀ (m : List Ent) (i : Nat), Instr.findNow (.int q) (.int .i64 k) (m.map entE) i = some (mfind k m i)
  | [], _ => rfl
  | x :: r, i => by
    show (match Instr.sameNow (.int q) (.int .i64 k) (.int .i64 x.1) with | some true => some (some (i, x.2.1)) | some false => Instr.findNow (.int q) (.int .i64 k) (r.map entE) (i + 1) | none => none) = _
    have : Instr.sameNow (.int q) (.int .i64 k) (.int .i64 x.1) = some (k == x.1) := by simp [Instr.sameNow]
    rw [this, mfind]
    cases k == x.1 with
    | true => rfl
    | false => exact findNow_m k r (i + 1)
section
variable {P : Program} {w : World} {mt kt et b clock : Nat} {m : List Ent} {k : Int}
theorem run_findKey_m (hd : P.underlying kt = some (.int .i64)) (k : Int) (m : List Ent) : (Instr.findKey kt (.int .i64 k) (m.map entE)).run P w = .ok (mfind k m 0) w :=
  MapKept.run_findKey hd (findNow_m k m 0)
theorem run_check_m (hd : P.underlying kt = some (.int .i64)) (k : Int) (e : Bool) : (Instr.checkKey e 10000 kt (.int .i64 k)).run P w = .ok () w := by
  unfold Instr.checkKey
  simp [Sem.run_bind, run_underlying hd, Result.andThen]
theorem run_lookup_m (ht : P.underlying mt = some (.map kt et)) (hd : P.underlying kt = some (.int .i64)) {z : Value} (hz : (zeroValue et).run P w = .ok z w) (hb : w.heap[b]? = some (.map (m.map entE).toArray clock)) :
    (Instr.lookup mt (.map (some b)) (.int .i64 k) true).run P w = .ok (.tuple #[(mget m k).getD z, .bool (mget m k).isSome]) w := by
  unfold mget
  have hf := run_findKey_m (P := P) (w := w) hd k m
  cases h : mfind k m 0 with
  | none => rw [h] at hf; simp [Instr.lookup, run_underlying ht, MapKept.run_getObj_map hb, run_check_m hd, hf, hz, Result.andThen]
  | some x => rw [h] at hf; simp [Instr.lookup, run_underlying ht, MapKept.run_getObj_map hb, run_check_m hd, hf, Result.andThen]
theorem mfind_get {k : Int} : ∀ {m : List Ent} {i j : Nat} {v : Value}, mfind k m i = some (j, v) → ∃ n x, j = i + n ∧ m[n]? = some x ∧ x.1 = k ∧ x.2.1 = v
  | [], _, _, _, h => by cases h
  | y :: r, i, j, v, h => by
    rw [mfind] at h
    cases e : k == y.1 with
    | true =>
      rw [e, cond_true] at h
      cases h
      exact ⟨0, y, rfl, rfl, (by simpa using e : k = y.1).symm, rfl⟩
    | false =>
      rw [e, cond_false] at h
      obtain ⟨n, x, h1, h2, h3, h4⟩ := mfind_get h
      exact ⟨n + 1, x, by omega, by simpa using h2, h3, h4⟩
theorem mfind_none {k : Int} : ∀ {m : List Ent} {i : Nat}, mfind k m i = none → ∀ x ∈ m, x.1 ≠ k
  | [], _, _, x, hx => by cases hx
  | y :: r, i, h, x, hx => by
    rw [mfind] at h
    cases e : k == y.1 with
    | true => rw [e, cond_true] at h; cases h
    | false =>
      rw [e, cond_false] at h
      rcases List.mem_cons.1 hx with rfl | hx
      · intro he; rw [he] at e; simp at e
      · exact mfind_none h x hx
theorem run_update_m {v : Value} (ht : P.underlying mt = some (.map kt et)) (hd : P.underlying kt = some (.int .i64)) (hb : w.heap[b]? = some (.map (m.map entE).toArray clock)) :
    (Instr.mapUpdate mt (.map (some b)) (.int .i64 k) v).run P w = .ok () { w with heap := w.heap.setIfInBounds b (.map ((mset m k v clock).1.map entE).toArray (mset m k v clock).2) } := by
  have hf := run_findKey_m (P := P) (w := w) hd k m
  unfold mset
  cases h : mfind k m 0 with
  | none => rw [h] at hf; simp [Instr.mapUpdate, run_underlying ht, MapKept.run_getObj_map hb, run_check_m hd, hf, MapKept.run_setObj_map _ hb, Result.andThen, entE]
  | some x =>
    obtain ⟨j, u⟩ := x
    rw [h] at hf
    obtain ⟨n, x, rfl, h2, h3, h4⟩ := mfind_get h
    rw [Nat.zero_add] at h hf
    have hk : (Instr.keyThatStays (.int .i64 k) (.int .i64 k)).run P w = .ok (.int .i64 k) w := by simp [Instr.keyThatStays, Instr.sameBits, Sem.run]
    have hm : ((m.map entE).toArray.modify n fun e => { e with key := .int .i64 k, val := v }) = ((m.modify n fun x => (k, v, x.2.2)).map entE).toArray := by
      apply Array.ext'
      rw [Array.toList_modify]
      dsimp only
      apply List.ext_getElem?
      intro i
      simp only [List.getElem?_modify, List.getElem?_map]
      cases m[i]? with
      | none => rfl
      | some y => by_cases e : n = i <;> simp [e, entE]
    have hr : (Instr.mapUpdate mt (.map (some b)) (.int .i64 k) v).run P w = .ok () { w with heap := w.heap.setIfInBounds b (.map ((m.map entE).toArray.modify n fun e => { e with key := .int .i64 k, val := v }) clock) } := by
      have hkk : (((m.map entE).toArray[n]?).map (·.key)).getD (.int .i64 k) = .int .i64 k := by simp [h2, h3, entE]
      simp only [Instr.mapUpdate, Sem.run_bind, run_underlying ht, MapKept.run_getObj_map hb, run_check_m hd, hf, Result.andThen, Nat.zero_add, hkk, hk, MapKept.run_setObj_map _ hb]
    rw [hr, hm]
    dsimp only
    rw [Nat.zero_add]
theorem er_map : ∀ (m : List Ent) (n : Nat), (m.eraseIdx n).map entE = (m.map entE).eraseIdx n
  | [], n => rfl
  | x :: r, 0 => rfl
  | x :: r, n + 1 => by simp [er_map r n]
theorem run_delete_m {ty : TypeId} (ht : P.underlying mt = some (.map kt et)) (hd : P.underlying kt = some (.int .i64)) (hb : w.heap[b]? = some (.map (m.map entE).toArray clock)) :
    (Builtin.delete_ #[mt, kt] ty #[.map (some b), .int .i64 k]).run P w = .ok (.tuple #[]) { w with heap := w.heap.setIfInBounds b (.map ((mdel m k).map entE).toArray clock) } := by
  have hf := run_findKey_m (P := P) (w := w) hd k m
  unfold mdel
  cases h : mfind k m 0 with
  | none => rw [h] at hf; simp [Builtin.delete_, run_underlying ht, MapKept.run_getObj_map hb, run_check_m hd, hf, MapKept.run_setObj_map _ hb, Result.andThen]
  | some x =>
    obtain ⟨j, u⟩ := x
    rw [h] at hf
    obtain ⟨n, x, rfl, h2, h3, h4⟩ := mfind_get h
    have hlt : n < m.length := (List.getElem?_eq_some_iff.1 h2).1
    rw [Nat.zero_add] at h hf
    have hm : (m.map entE).toArray.eraseIdxIfInBounds n = ((m.eraseIdx n).map entE).toArray := by
      unfold Array.eraseIdxIfInBounds
      rw [dif_pos (by simpa using hlt)]
      apply Array.ext'
      simp only [List.eraseIdx_toArray, Array.toList_eraseIdx]
      exact (er_map m n).symm
    have hr : (Builtin.delete_ #[mt, kt] ty #[.map (some b), .int .i64 k]).run P w = .ok (.tuple #[]) { w with heap := w.heap.setIfInBounds b (.map ((m.map entE).toArray.eraseIdxIfInBounds n) clock) } := by
      simp [Builtin.delete_, run_underlying ht, MapKept.run_getObj_map hb, run_check_m hd, hf, MapKept.run_setObj_map _ hb, Result.andThen]
    rw [hr, hm]
    dsimp only
    rw [Nat.zero_add]
theorem run_clear_m {ty : TypeId} (ht : P.underlying mt = some (.map kt et)) (hb : w.heap[b]? = some (.map (m.map entE).toArray clock)) :
    (Builtin.clear_ #[mt] ty #[.map (some b)]).run P w = .ok (.tuple #[]) { w with heap := w.heap.setIfInBounds b (.map (([] : List Ent).map entE).toArray clock) } := by
  simp [Builtin.clear_, run_underlying ht, MapKept.run_getObj_map hb, MapKept.run_setObj_map _ hb, Result.andThen]
theorem run_len_m {ty : TypeId} (ht : P.underlying mt = some (.map kt et)) (hb : w.heap[b]? = some (.map (m.map entE).toArray clock)) :
    (Builtin.len_ #[mt] ty #[.map (some b)]).run P w = .ok (.int .i64 (m.length : Int)) w := by
  simp [Builtin.len_, run_underlying ht, MapKept.run_getObj_map hb, Result.andThen, goInt]
end
end Go.Proofs.Ythljhaioblcgfaa
namespace Go.Proofs.Ythljhaioblcgfaa
open Go.RowKit
set_option linter.unusedVariables false
set_option linter.unusedSimpArgs false
/-- A block of whatever kind is put anew. -/
theorem Mem.updO {X : Cx} {l l' : Blks} {w : World} {n : Nat} {x y : Array Value × TypeId} (h : Mem X l w) (ha : At l n x y l') : Mem X l' { w with heap := w.heap.setIfInBounds n (toObj y) } := by
  have hg := h.cls.now n x.1 x.2 (ha.now h.nd)
  have hlt := blk_lt hg
  have hoth : ∀ k, k ≠ n → (w.heap.setIfInBounds n (toObj y))[k]? = w.heap[k]? := fun k hk => by simp [Ne.symm hk]
  refine ⟨by rw [ha.keys]; exact h.nd, ⟨h.cls.os, h.cls.tape, h.cls.output, by simpa using h.cls.size, fun k hk hm => ?_, fun k d u hm => ?_⟩, fun k hk => h.fresh k (by rw [← ha.keys]; exact hk)⟩
  · rw [hoth k (fun e => hm (by subst e; exact h.fresh k ha.mem hk))]
    exact h.cls.old k hk hm
  · rw [ha.put h.nd k] at hm
    split at hm
    · rename_i he; cases hm; subst he; simp [hlt]
    · rename_i hne
      rw [hoth k hne]; exact h.cls.now k d u hm
theorem Mem.map {X : Cx} {l l' : Blks} {w : World} {b clock : Nat} {m : List Ent} {y : Array Value × TypeId} (h : Mem X l w) (ha : At l b (mapB m clock) y l') : w.heap[b]? = some (.map (m.map entE).toArray clock) :=
  (h.cls.now b _ _ (ha.now h.nd)).trans (congrArg some (toObj_map m clock))
section
variable {X : Cx} {s : Slots} {l : Blks} {o : Oper} {v : Value} {Q : Post} {ops : Array Oper} {r : List Oper}
/-- An operation that gives a value and may turn blocks. -/
theorem wl_obj {l' : Blks} {s' : Slots} {v : Value} (hg : gd s ops o = some true) (hd : dOk X.N o.dst = true) (hv : ∀ a w, Env X.N s a → Mem X l w → ∃ w', (execOp a.eval o).run X.P w = .ok (.value v) w' ∧ Mem X l' w') (h : Wl X ops Q r s' l') (hs' : sputO s o.dst v = s') : Wl X ops Q (o :: r) s l := fun a w hs => by
  subst hs'
  have hw := gd_wanted hs.env hg
  unfold wpList
  rw [if_pos hw]
  refine .inl ?_
  unfold Oper.wp
  obtain ⟨w', h1, h2⟩ := hv a w hs.env hs.mem
  rw [h1]
  exact h _ _ ⟨hs.env.put hd _, h2⟩
theorem rd_lookup {x y : Operand} {mt kt et b clock : Nat} {m : List Ent} {k : Int} {z : Value} (ho : o.op = .lookup mt x y true) (hx : val s x = some (.map (some b))) (hy : val s y = some (.int .i64 k)) [ht : UT X.P mt (.map kt et)] [hd : UT X.P kt (.int .i64)] [hz : ZR X.P et z]
    (ha : At l b (mapB m clock) (mapB m clock) l := by repeat (first | exact At.here | apply At.there)) : RdV X s l o (.tuple #[(mget m k).getD z, .bool (mget m k).isSome]) := fun a w he hm => by
  simp only [execOp, ho, he.eval hx, he.eval hy, Sem.run_bind, run_lookup_m ht.out hd.out (hz.run w) (hm.map ha), Result.andThen_ok, Sem.run_pure]
theorem rd_lookupT {x y : Operand} {mt kt et b clock : Nat} {m : List Ent} {k : Int} {z u : Value} (ho : o.op = .lookup mt x y true) (hx : val s x = some (.map (some b))) (hy : val s y = some (.int .i64 k)) [ht : UT X.P mt (.map kt et)] [hd : UT X.P kt (.int .i64)] [hz : ZR X.P et z]
    (ha : At l b (mapB m clock) (mapB m clock) l := by repeat (first | exact At.here | apply At.there)) (hu : mget m k = some u := by with_reducible assumption) : RdV X s l o (.tuple #[u, .bool true]) := by
  have h := rd_lookup (X := X) (l := l) (z := z) ho hx hy ha
  rw [hu] at h
  exact h
theorem rd_lookupF {x y : Operand} {mt kt et b clock : Nat} {m : List Ent} {k : Int} {z : Value} (ho : o.op = .lookup mt x y true) (hx : val s x = some (.map (some b))) (hy : val s y = some (.int .i64 k)) [ht : UT X.P mt (.map kt et)] [hd : UT X.P kt (.int .i64)] [hz : ZR X.P et z]
    (ha : At l b (mapB m clock) (mapB m clock) l := by repeat (first | exact At.here | apply At.there)) (hu : mget m k = none := by with_reducible assumption) : RdV X s l o (.tuple #[z, .bool false]) := by
  have h := rd_lookup (X := X) (l := l) (z := z) ho hx hy ha
  rw [hu] at h
  exact h
theorem rd_lenM {c : Call} {x : Operand} {mt kt et b clock : Nat} {m : List Ent} (ho : o.op = .call c) (hc : c.callee = .builtin .len) (hr : c.args = #[x]) (ht : c.argTypes = #[mt]) (hx : val s x = some (.map (some b))) [hu : UT X.P mt (.map kt et)]
    (ha : At l b (mapB m clock) (mapB m clock) l := by repeat (first | exact At.here | apply At.there)) : RdV X s l o (.int .i64 (m.length : Int)) := fun a w he hm => by
  unfold execOp
  simp only [ho, resolve, hc, hr, ht, invoke, builtin, Sem.run_bind, Sem.run_pure, Result.andThen_ok, List.map_toArray, List.map_cons, List.map_nil, he.eval hx, run_len_m hu.out (hm.map ha)]
theorem sv_mset {x y u : Operand} {mt kt et b clock : Nat} {m : List Ent} {k : Int} {l' : Blks} (ho : o.op = .mapUpdate mt x y u) (hx : val s x = some (.map (some b))) (hy : val s y = some (.int .i64 k)) (hu : val s u = some v) [ht : UT X.P mt (.map kt et)] [hd : UT X.P kt (.int .i64)]
    (ha : At l b (mapB m clock) (mapB (mset m k v clock).1 (mset m k v clock).2) l' := by repeat (first | exact At.here | apply At.there)) : Sv X s l o l' := fun a w he hm => by
  have h := hm.updO ha
  rw [toObj_map] at h
  refine ⟨_, ?_, h⟩
  simp only [execOp, ho, he.eval hx, he.eval hy, he.eval hu, Sem.run_bind, run_update_m ht.out hd.out (hm.map ha), Result.andThen_ok, Sem.run_pure]
theorem wl_mset {x y u : Operand} {mt kt et b clock : Nat} {m : List Ent} {k : Int} {l' : Blks} {s' : Slots} (hg : gd s ops o = some true) (hd : dOk X.N o.dst = true) (ho : o.op = .mapUpdate mt x y u) (hx : val s x = some (.map (some b))) (hy : val s y = some (.int .i64 k)) (hu : val s u = some v) [ht : UT X.P mt (.map kt et)] [hk : UT X.P kt (.int .i64)] (h : Wl X ops Q r s' l')
    (ha : At l b (mapB m clock) (mapB (mset m k v clock).1 (mset m k v clock).2) l' := by repeat (first | exact At.here | apply At.there)) (hs' : sputO s o.dst undef = s' := by (try dsimp only [sputO, sput, Nat.reduceBEq, cond_true, cond_false, beq_self_eq_true]); first | done | exact rfl) : Wl X ops Q (o :: r) s l :=
  wl_store hg hd (sv_mset ho hx hy hu ha) h hs'
theorem wl_mdel {x y : Operand} {mt kt et b clock : Nat} {m : List Ent} {k : Int} {l' : Blks} {s' : Slots} (hg : gd s ops o = some true) (hd : dOk X.N o.dst = true) (ho : o.op = .call { callee := .builtin .delete, args := #[x, y], argTypes := #[mt, kt] }) (hx : val s x = some (.map (some b))) (hy : val s y = some (.int .i64 k)) [ht : UT X.P mt (.map kt et)] [hk : UT X.P kt (.int .i64)] (h : Wl X ops Q r s' l')
    (ha : At l b (mapB m clock) (mapB (mdel m k) clock) l' := by repeat (first | exact At.here | apply At.there)) (hs' : sputO s o.dst (.tuple #[]) = s' := by (try dsimp only [sputO, sput, Nat.reduceBEq, cond_true, cond_false, beq_self_eq_true]); first | done | exact rfl) : Wl X ops Q (o :: r) s l :=
  wl_obj hg hd (fun a w he hm => by
    have h := hm.updO ha
    rw [toObj_map] at h
    refine ⟨_, ?_, h⟩
    unfold execOp
    simp only [ho, resolve, invoke, builtin, Sem.run_bind, Sem.run_pure, Result.andThen_ok, List.map_toArray, List.map_cons, List.map_nil, he.eval hx, he.eval hy, run_delete_m ht.out hk.out (hm.map ha)]) h hs'
theorem wl_mclear {x : Operand} {mt kt et b clock : Nat} {m : List Ent} {l' : Blks} {s' : Slots} (hg : gd s ops o = some true) (hd : dOk X.N o.dst = true) (ho : o.op = .call { callee := .builtin .clear, args := #[x], argTypes := #[mt] }) (hx : val s x = some (.map (some b))) [ht : UT X.P mt (.map kt et)] (h : Wl X ops Q r s' l')
    (ha : At l b (mapB m clock) (mapB [] clock) l' := by repeat (first | exact At.here | apply At.there)) (hs' : sputO s o.dst (.tuple #[]) = s' := by (try dsimp only [sputO, sput, Nat.reduceBEq, cond_true, cond_false, beq_self_eq_true]); first | done | exact rfl) : Wl X ops Q (o :: r) s l :=
  wl_obj hg hd (fun a w he hm => by
    have h := hm.updO ha
    rw [toObj_map] at h
    refine ⟨_, ?_, h⟩
    unfold execOp
    simp only [ho, resolve, invoke, builtin, Sem.run_bind, Sem.run_pure, Result.andThen_ok, List.map_toArray, List.map_cons, List.map_nil, he.eval hx, run_clear_m ht.out (hm.map ha)]) h hs'
theorem wl_mmap {mt : Nat} {s' : Nat → Slots} (hg : gd s ops o = some true) (hd : dOk X.N o.dst = true) (ho : o.op = .makeMap mt none)
    (h : ∀ n, X.W.heap.size ≤ n → Wl X ops Q r (s' n) ((n, mapB [] 0) :: l)) (hs' : ∀ n, sputO s o.dst (.map (some n)) = s' n := by intro _; (try dsimp only [sputO, sput, Nat.reduceBEq, cond_true, cond_false, beq_self_eq_true]); first | done | exact rfl) : Wl X ops Q (o :: r) s l := fun a w hs => by
  obtain rfl : (fun n => sputO s o.dst (.map (some n))) = s' := funext hs'
  have hw := gd_wanted hs.env hg
  unfold wpList
  rw [if_pos hw]
  refine .inl ?_
  unfold Oper.wp
  have hr : (execOp a.eval o).run X.P w = .ok (.value (.map (some w.heap.size))) (w.alloc (.map #[] 0)) := by
    simp [execOp, ho, Instr.makeMap, Sem.run_bind, go_sem]
  rw [hr]
  have h1 := hs.mem.newO (mapB [] 0)
  rw [toObj_map] at h1
  exact h w.heap.size hs.mem.cls.size _ _ ⟨hs.env.put hd _, h1⟩
/-- Stamps below the clock, each once; keys each once. -/
structure MOk (m : List Ent) (clock : Nat) : Prop where
  lt : ∀ x ∈ m, x.2.2 < clock
  nd : (m.map (·.2.2)).Nodup
  keys : (m.map (·.1)).Nodup
theorem wl_range {x : Operand} {mt kt et b clock : Nat} {m : List Ent} {s' : Nat → Slots} (hg : gd s ops o = some true) (hd : dOk X.N o.dst = true) (ho : o.op = .range mt x) (hx : val s x = some (.map (some b))) [ht : UT X.P mt (.map kt et)]
    (h : ∀ n, X.W.heap.size ≤ n → Wl X ops Q r (s' n) ((n, iterB b clock [] clock) :: l)) (ha : At l b (mapB m clock) (mapB m clock) l := by repeat (first | exact At.here | apply At.there))
    (hs' : ∀ n, sputO s o.dst (ptr n) = s' n := by intro _; (try dsimp only [sputO, sput, Nat.reduceBEq, cond_true, cond_false, beq_self_eq_true]); first | done | exact rfl) : Wl X ops Q (o :: r) s l := fun a w hs => by
  obtain rfl : (fun n => sputO s o.dst (ptr n)) = s' := funext hs'
  have hw := gd_wanted hs.env hg
  unfold wpList
  rw [if_pos hw]
  refine .inl ?_
  unfold Oper.wp
  have hb := hs.mem.map ha
  have hr : (execOp a.eval o).run X.P w = .ok (.value (ptr w.heap.size)) (w.alloc (.mapIter (some b) clock #[] clock)) := by
    have h0 : (Instr.range mt (.map (some b))).run X.P w = .ok (ptr w.heap.size) (w.alloc (.mapIter (some b) clock #[] clock)) := by
      simp [Instr.range, Sem.run_bind, run_underlying ht.out, MapKept.run_getObj_map hb, Result.andThen, go_sem]
    simp only [execOp, ho, hs.env.eval hx, Sem.run_bind, h0, Result.andThen_ok, Sem.run_pure]
  rw [hr]
  have h1 := hs.mem.newO (iterB b clock [] clock)
  rw [toObj_iter] at h1
  exact h w.heap.size hs.mem.cls.size _ _ ⟨hs.env.put hd _, h1⟩
theorem Mem.iter {X : Cx} {l l' : Blks} {w : World} {n b since step : Nat} {seen : List Nat} {y : Array Value × TypeId} (h : Mem X l w) (ha : At l n (iterB b since seen step) y l') : w.heap[n]? = some (.mapIter (some b) since seen.toArray step) :=
  (h.cls.now n _ _ (ha.now h.nd)).trans (congrArg some (toObj_iter b since seen step))
theorem wl_next {x : Operand} {b n clock : Nat} {m : List Ent} {seen : List Nat} {l' : Nat → Blks} {s0 : Slots} {s1 : Ent → Slots} (hg : gd s ops o = some true) (hd : dOk X.N o.dst = true) (ho : o.op = .next x false) (hx : val s x = some (ptr n)) (hm : MOk m clock)
    (h0 : (∀ y ∈ m, y.2.2 ∈ seen) → Wl X ops Q r s0 l) (h1 : ∀ y, y ∈ m → y.2.2 ∉ seen → Wl X ops Q r (s1 y) (l' y.2.2))
    (hb : At l b (mapB m clock) (mapB m clock) l := by repeat (first | exact At.here | apply At.there)) (ha : ∀ c, At l n (iterB b clock seen clock) (iterB b clock (seen ++ [c]) clock) (l' c) := by intro _; repeat (first | exact At.here | apply At.there))
    (hs0 : sputO s o.dst (.tuple #[.bool false]) = s0 := by (try dsimp only [sputO, sput, Nat.reduceBEq, cond_true, cond_false, beq_self_eq_true]); first | done | exact rfl)
    (hs1 : ∀ y, sputO s o.dst (.tuple #[.bool true, .int .i64 y.1, y.2.1]) = s1 y := by intro _; (try dsimp only [sputO, sput, Nat.reduceBEq, cond_true, cond_false, beq_self_eq_true]); first | done | exact rfl) : Wl X ops Q (o :: r) s l := fun a w hs => by
  obtain rfl : (fun y => sputO s o.dst (.tuple #[.bool true, .int .i64 y.1, y.2.1])) = s1 := funext hs1
  subst hs0
  have hw := gd_wanted hs.env hg
  unfold wpList
  rw [if_pos hw]
  refine .inl ?_
  unfold Oper.wp
  have hbm := hs.mem.map hb
  have hit := hs.mem.iter (ha 0)
  have hlo : ∀ e ∈ (leftOf (m.map entE).toArray seen.toArray).toList, ∃ y ∈ m, y.2.2 ∉ seen ∧ e = entE y := fun e he => by
    unfold leftOf at he
    simp only [Array.toList_filter, List.mem_filter, List.mem_map] at he
    obtain ⟨⟨y, hy, rfl⟩, hn⟩ := he
    exact ⟨y, hy, by simpa [entE] using hn, rfl⟩
  rcases run_next_at (P := X.P) w o.type n b clock clock seen.toArray (m.map entE).toArray clock hit hbm (fun e he => by simp only [List.mem_map] at he; obtain ⟨y, hy, rfl⟩ := he; exact hm.lt y hy) (Nat.le_refl _) with ⟨h2, h3⟩ | ⟨e, h2, w1, h3, h4⟩
  · have hr : (execOp a.eval o).run X.P w = .ok (.value (.tuple #[.bool false])) w := by
      simp only [execOp, ho, hs.env.eval hx, Sem.run_bind, ptr, h3, Result.andThen_ok, Sem.run_pure]
    rw [hr]
    refine h0 (fun y hy => ?_) _ _ ⟨hs.env.put hd _, hs.mem⟩
    have h5 : leftOf (m.map entE).toArray seen.toArray = #[] := Array.eq_empty_of_size_eq_zero h2
    unfold leftOf at h5
    rw [Array.filter_eq_empty_iff] at h5
    have := h5 (entE y) (by simp; exact ⟨_, _, _, hy, rfl⟩)
    simpa [entE] using this
  · obtain ⟨y, hy, hn, rfl⟩ := hlo e h2
    have hr : (execOp a.eval o).run X.P w = .ok (.value (.tuple #[.bool true, .int .i64 y.1, y.2.1])) (ChangeMaps.setBlock w1 n (.mapIter (some b) clock (seen ++ [y.2.2]).toArray clock)) := by
      simp only [execOp, ho, hs.env.eval hx, Sem.run_bind, ptr, h4, Result.andThen_ok, Sem.run_pure]
      simp [entE]
    rw [hr]
    have hm1 : Mem X l w1 := by
      rcases h3 with rfl | rfl
      · exact hs.mem
      · exact hs.mem.drew
    have h6 := hm1.updO (ha y.2.2)
    rw [toObj_iter] at h6
    exact h1 y hy hn _ _ ⟨hs.env.put hd _, h6⟩
theorem rd_entry {x : Operand} {b n since clock c : Nat} {m : List Ent} {seen : List Nat} {y : Ent} (ho : o.op = .entry x) (hx : val s x = some (ptr n))
    (hb : At l b (mapB m clock) (mapB m clock) l := by repeat (first | exact At.here | apply At.there)) (ha : At l n (iterB b since (seen ++ [y.2.2]) clock) (iterB b since (seen ++ [y.2.2]) clock) l := by repeat (first | exact At.here | apply At.there)) (hm : MOk m clock := by with_reducible assumption) (hy : y ∈ m := by with_reducible assumption) : RdV X s l o (.tuple #[.int .i64 y.1, y.2.1]) := fun a w he hmem => by
  have hit := hmem.iter ha
  have h1 := run_entry_at (P := X.P) w n b since seen.toArray (m.map entE).toArray clock (entE y) (by rw [hit]; simp [entE]) (hmem.map hb) (by simp; exact ⟨_, _, _, hy, rfl⟩) (by
    have := hm.nd
    simpa [entE, Function.comp_def] using this)
  simp only [execOp, ho, he.eval hx, Sem.run_bind, ptr, h1, Result.andThen_ok, Sem.run_pure]
  rfl
theorem rd_entryK {x : Operand} {b n since clock c : Nat} {m : List Ent} {seen : List Nat} {k : Int} {u : Value} (ho : o.op = .entry x) (hx : val s x = some (ptr n))
    (hb : At l b (mapB m clock) (mapB m clock) l := by repeat (first | exact At.here | apply At.there)) (ha : At l n (iterB b since (seen ++ [c]) clock) (iterB b since (seen ++ [c]) clock) l := by repeat (first | exact At.here | apply At.there)) (hm : MOk m clock := by with_reducible assumption) (hy : (k, u, c) ∈ m := by with_reducible assumption) : RdV X s l o (.tuple #[.int .i64 k, u]) :=
  rd_entry (c := 0) (y := (k, u, c)) ho hx hb ha hm hy
end
section
variable {X : Cx} {s : Slots} {l : Blks} {Q : Post} {ops : Array Oper} {r : List Oper} {d : Option Tmp} {ty : TypeId} {p : String} {af : Array Edge} {g : Option (Nat × Bool)}
theorem sel_lookup {t : Nat} {x y : Operand} {b : Bool} (h : Wl X ops Q (⟨d, .lookup t x y b, ty, p, af, g⟩ :: r) s l) : Wl X ops Q (⟨d, .lookup t x y b, ty, p, af, g⟩ :: r) s l := h
theorem sel_mapUpdate {t : Nat} {x y z : Operand} (h : Wl X ops Q (⟨d, .mapUpdate t x y z, ty, p, af, g⟩ :: r) s l) : Wl X ops Q (⟨d, .mapUpdate t x y z, ty, p, af, g⟩ :: r) s l := h
theorem sel_makeMap {t : Nat} {x : Option Operand} (h : Wl X ops Q (⟨d, .makeMap t x, ty, p, af, g⟩ :: r) s l) : Wl X ops Q (⟨d, .makeMap t x, ty, p, af, g⟩ :: r) s l := h
theorem sel_range {t : Nat} {x : Operand} (h : Wl X ops Q (⟨d, .range t x, ty, p, af, g⟩ :: r) s l) : Wl X ops Q (⟨d, .range t x, ty, p, af, g⟩ :: r) s l := h
theorem sel_next {x : Operand} {b : Bool} (h : Wl X ops Q (⟨d, .next x b, ty, p, af, g⟩ :: r) s l) : Wl X ops Q (⟨d, .next x b, ty, p, af, g⟩ :: r) s l := h
theorem sel_entry {x : Operand} (h : Wl X ops Q (⟨d, .entry x, ty, p, af, g⟩ :: r) s l) : Wl X ops Q (⟨d, .entry x, ty, p, af, g⟩ :: r) s l := h
end
end Go.Proofs.Ythljhaioblcgfaa
namespace Go.Proofs.Ythljhaioblcgfaa
set_option linter.unusedVariables false
set_option linter.unusedSimpArgs false
def seV (rw : Bool) : Value := .agg #[.bool rw]
/-- A session: number, may it write, stamp. -/
abbrev Se := Int × Bool × Nat
def seE (x : Se) : Ent := (x.1, seV x.2.1, x.2.2)
structure Dk where
  most : Int
  last : Int
  who : Int
  m : List Se
  clock : Nat
def dkC (g : Nat) (D : Dk) : Array Value := #[.int .i64 D.most, .int .i64 D.last, .int .i64 D.who, .map (some g)]
def sget : List Se → Int → Option Bool
  | [], _ => none
  | x :: r, k => if k = x.1 then some x.2.1 else sget r k
def sdel : List Se → Int → List Se
  | [], _ => []
  | x :: r, k => if k = x.1 then r else x :: sdel r k
theorem mfind_se (k : Int) : ∀ (m : List Se) (i : Nat), (mfind k (m.map seE) i).map (·.2) = (sget m k).map seV
  | [], _ => rfl
  | x :: r, i => by
    rw [List.map_cons, mfind, sget]
    by_cases e : k = x.1
    · subst e; simp [seE]
    · rw [if_neg e, show (k == (seE x).1) = false by simpa [seE] using e, cond_false]
      exact mfind_se k r (i + 1)
theorem mget_se (m : List Se) (k : Int) : mget (m.map seE) k = (sget m k).map seV := mfind_se k m 0
theorem mfind_shift (k : Int) : ∀ (m : List Ent) (i : Nat), mfind k m (i + 1) = (mfind k m i).map fun x => (x.1 + 1, x.2)
  | [], _ => rfl
  | x :: r, i => by
    rw [mfind, mfind]
    cases k == x.1 with
    | true => rfl
    | false => exact mfind_shift k r (i + 1)
theorem mdel_se : ∀ (m : List Se) (k : Int), mdel (m.map seE) k = (sdel m k).map seE
  | [], _ => rfl
  | x :: r, k => by
    unfold mdel
    rw [List.map_cons, mfind, sdel]
    by_cases e : k = x.1
    · subst e; simp [seE]
    · rw [if_neg e, show (k == (seE x).1) = false by simpa [seE] using e, cond_false, mfind_shift]
      have ih := mdel_se r k
      unfold mdel at ih
      rw [List.map_cons, ← ih]
      cases mfind k (r.map seE) 0 with
      | none => rfl
      | some y => rfl
theorem mset_se {m : List Se} {k : Int} (h : sget m k = none) (rw' : Bool) (clock : Nat) : mset (m.map seE) k (seV rw') clock = ((m ++ [(k, rw', clock)]).map seE, clock + 1) := by
  unfold mset
  have h1 := mget_se m k
  rw [h] at h1
  unfold mget at h1
  cases h2 : mfind k (m.map seE) 0 with
  | some x => rw [h2] at h1; cases h1
  | none => simp [seE]
theorem sget_none {m : List Se} {k : Int} : sget m k = none ↔ ∀ x ∈ m, x.1 ≠ k := by
  induction m with
  | nil => simp [sget]
  | cons x r ih =>
    rw [sget]
    by_cases e : k = x.1
    · rw [if_pos e]; simp [e]
    · rw [if_neg e, ih]; simp [Ne.symm e]
theorem sdel_mem {m : List Se} {k : Int} {y : Se} (h : y ∈ sdel m k) : y ∈ m := by
  induction m with
  | nil => cases h
  | cons x r ih =>
    rw [sdel] at h
    split at h
    · exact List.mem_cons_of_mem _ h
    · rcases List.mem_cons.1 h with rfl | h
      · exact List.mem_cons_self
      · exact List.mem_cons_of_mem _ (ih h)
theorem sdel_sub (m : List Se) (k : Int) : (sdel m k).Sublist m := by
  induction m with
  | nil => exact List.Sublist.refl _
  | cons x r ih =>
    rw [sdel]
    split
    · exact List.sublist_cons_self _ _
    · exact ih.cons_cons _
/-- What holds of every desk. -/
structure DkOk (D : Dk) : Prop where
  lo : 1 ≤ D.most
  hi : D.most ≤ 16
  last0 : 0 ≤ D.last
  last1 : D.last ≤ 1073741823
  few : (D.m.length : Int) ≤ D.most
  lt : ∀ x ∈ D.m, x.2.2 < D.clock
  nd : (D.m.map (·.2.2)).Nodup
  keys : (D.m.map (·.1)).Nodup
  below : ∀ x ∈ D.m, 1 ≤ x.1 ∧ x.1 ≤ D.last
  who : D.who = 0 ∨ D.who = 1 ∨ D.who = 2
theorem DkOk.mok {D : Dk} (h : DkOk D) : MOk (D.m.map seE) D.clock where
  lt := fun x hx => by obtain ⟨y, hy, rfl⟩ := List.mem_map.1 hx; exact h.lt y hy
  nd := by have := h.nd; simpa [seE, Function.comp_def] using this
  keys := by have := h.keys; simpa [seE, Function.comp_def] using this
/-! What each call makes. -/
def openE (D : Dk) (rw' : Bool) : Int := if D.most ≤ (D.m.length : Int) ∨ D.last = 1073741823 then 7 else if rw' = false ∧ D.who = 2 then 8 else 0
def openD (D : Dk) (rw' : Bool) : Dk := if openE D rw' = 0 then { D with last := D.last + 1, m := D.m ++ [(D.last + 1, rw', D.clock)], clock := D.clock + 1 } else D
def openN (D : Dk) (rw' : Bool) : Int := if openE D rw' = 0 then D.last + 1 else 0
def closeE (D : Dk) (id : Int) : Int := if sget D.m id = none then 6 else 0
def closeD (D : Dk) (id : Int) : Dk := if sget D.m id = none then D else { D with m := sdel D.m id, who := if sdel D.m id = [] then 0 else D.who }
def allD (D : Dk) : Dk := { D with m := [], who := 0 }
def loginE (D : Dk) (id role : Int) : Int := if sget D.m id = none then 6 else if role ≠ 1 ∧ role ≠ 2 then 1 else if D.who ≠ 0 then 8 else if role = 2 ∧ ∃ x ∈ D.m, x.2.1 = false then 8 else 0
def loginD (D : Dk) (id role : Int) : Dk := if loginE D id role = 0 then { D with who := role } else D
def logoutE (D : Dk) (id : Int) : Int := if sget D.m id = none then 6 else if D.who = 0 then 8 else 0
def logoutD (D : Dk) (id : Int) : Dk := if logoutE D id = 0 then { D with who := 0 } else D
def stateN (D : Dk) (id : Int) : Int := match sget D.m id with
  | none => 0
  | some true => 3 + D.who
  | some false => 1 + D.who
def stateE (D : Dk) (id : Int) : Int := if sget D.m id = none then 6 else 0
end Go.Proofs.Ythljhaioblcgfaa
namespace Go.Proofs.Ythljhaioblcgfaa
open Go.RowKit
set_option linter.unusedVariables false
set_option linter.unusedSimpArgs false
/-- What is made of the blocks oa: one value and what it stands on are told of; all else below is as it was. -/
def RetU {T : Type} (mk : T → Value) (oa : Blks) (Φ : T → Blks → Prop) (w : World) (e : Ending) (w' : World) : Prop := ∃ x oa', e = .returned (mk x) ∧ Φ x oa' ∧ Upd w oa w' oa'
theorem Mem.initO {P : Program} {W : World} {N : Nat} {oa : Blks} (nd : (keys oa).Nodup) (hd : Hd oa W) : Mem ⟨P, W, N, keys oa⟩ oa W :=
  ⟨nd, ⟨rfl, rfl, rfl, Nat.le_refl _, fun _ _ _ => rfl, fun k c t h => hd (k, (c, t)) (mu_in h)⟩, fun _ h _ => h⟩
theorem Mem.toUpd {P : Program} {W w : World} {N : Nat} {oa oa' : Blks} (hm : Mem ⟨P, W, N, keys oa⟩ oa' w) : Upd W oa w oa' :=
  ⟨hm.cls.os, hm.cls.tape, hm.cls.output, hm.cls.size, fun k hk hn => hm.cls.old k hk hn, hm.nd, fun p hp => hm.cls.now p.1 p.2.1 p.2.2 (mu_mem_of hp hm.nd), fun n hn => by
    rcases Nat.lt_or_ge n W.heap.size with h | h
    · exact .inl (hm.fresh n hn h)
    · exact .inr h⟩
theorem fn_upd {T : Type} {mk : T → Value} {oa : Blks} {Φ : T → Blks → Prop} {P : Program} {f : Nat} {fn : Func} {c : Code} {vs : List Value} {W : World} {N : Nat} (hf : P.funcs[f]? = some fn) (hb : fn.body = some c) (hN : fn.ntmps = N) {rs : List ResultVar} (hrs : fn.results = rs.toArray) (hl : vs.length ≤ N)
    (nd : (keys oa).Nodup) (hd : Hd oa W) (h : Wc ⟨P, W, N, keys oa⟩ c (endP ⟨P, W, N, keys oa⟩ rs fun u l => ∃ x oa', u = mk x ∧ Φ x oa' ∧ SubL oa' l) (initS vs 0) oa) : Calls P f vs.toArray W (RetU mk oa Φ W) :=
  (fn_calls hf hb hN hrs hl (Mem.initO nd hd) h).mono fun e w' ⟨u, l, he, ⟨x, oa', hu, hφ, hs⟩, hm⟩ => ⟨x, oa', by rw [he, hu], hφ, (hm.sub hs).toUpd⟩
/-- What came in and is none of the blocks that may be written. -/
theorem Cs.oldX {W : World} {v : Value} {n : Nat} {xs : List Value} {own : List Nat} (h : Cs W v n xs) (ha : elB v ∉ own) : CsF (Old W own) v n xs := ⟨h.ln, fun w ho => h.stay fun b off cap hv hlt => ho b hlt (by subst hv; exact ha)⟩
theorem Cb.oldX {W : World} {v : Value} {n : Nat} {p : List Nat} {own : List Nat} (h : Cb W v n p) (ha : elB v ∉ own) : CsB (Old W own) v n p := ⟨h.cs.oldX ha, h.ok⟩
section
variable {X : Cx} {s : Slots} {l : Blks} {o : Oper} {v : Value} {Q : Post} {ops : Array Oper} {r : List Oper}
theorem Mem.hd {w : World} {oa : Blks} {f : Blks → Blks} (hm : Mem X l w) [hs : Seg l oa f] : Hd oa w := fun p hp => by
  obtain ⟨pre, post, rfl, _⟩ := hs.out
  exact hm.cls.now p.1 p.2.1 p.2.2 (mu_mem_of (by simp [hp]) hm.nd)
theorem wl_updO {T : Type} {mk : T → Value} {oa : Blks} {Φ : T → Blks → Prop} {c : Call} {fi : Nat} {vs : List Value} {f : Blks → Blks} {s' : T → Slots} (hg : gd s ops o = some true) (hd : dOk X.N o.dst = true) (ho : o.op = .call c) (hc : c.callee = .value (.func fi)) (ha : vals s c.args.toList = some vs)
    (hC : ∀ w, Mem X l w → Hd oa w → Calls X.P fi vs.toArray w (RetU mk oa Φ w)) [hf : Seg l oa f] (h : ∀ x oa', Φ x oa' → Wl X ops Q r (s' x) (f oa')) (hk : callOk X.P fi = true := by kernel_rfl)
    (hs' : ∀ x, sputO s o.dst (mk x) = s' x := by intro _; (try dsimp only [sputO, sput, Nat.reduceBEq, cond_true, cond_false, beq_self_eq_true]); first | done | exact rfl) : Wl X ops Q (o :: r) s l := fun a w hst => by
  obtain rfl : (fun x => sputO s o.dst (mk x)) = s' := funext hs'
  have hw := gd_wanted hst.env hg
  unfold wpList
  rw [if_pos hw]
  refine .inl ?_
  unfold Oper.wp
  rw [run_op_call ho hc hst.env ha, run_enter hk]
  refine (hC w hst.mem hst.mem.hd).mono fun e w' ⟨x, oa', he, hφ, hup⟩ => ?_
  subst he
  exact h x oa' hφ _ _ ⟨hst.env.put hd _, hup.mem hst.mem⟩
end
end Go.Proofs.Ythljhaioblcgfaa
namespace Go.Proofs.Ythljhaioblcgfaa
open Go.RowKit
set_option linter.unusedVariables false
set_option linter.unusedSimpArgs false
set_option maxRecDepth 100000
def dkB (b g : Nat) (D : Dk) : Blks := [(b, (dkC g D, 44)), (g, mapB (D.m.map seE) D.clock)]
theorem dk_nd {b g : Nat} {D : Dk} (h : b ≠ g) : (keys (dkB b g D)).Nodup := by simp [keys, dkB, h]
section
variable {b g : Nat} {D : Dk} {id role : Int}
theorem there_t (w : World) (nd : b ≠ g) (hd : Hd (dkB b g D) w) {r : Bool} (h : sget D.m id = some r) :
    Calls Try.prog 19 [ptr b, .int .i64 id].toArray w (RetU (fun _ : Unit => .bool true) (dkB b g D) (fun _ oa => oa = dkB b g D) w) := by
  obtain ⟨most, last, who, m, clock⟩ := D
  have hm : mget (m.map seE) id = some (.agg #[.bool r]) := by rw [mget_se]; dsimp only at h; rw [h]; rfl
  clear h
  have nk := dk_nd (D := ⟨most, last, who, m, clock⟩) nd
  refine fn_upd (N := _) Try.func19 rfl Try.ntmps19 Try.results19 (by simp) nk hd ?_
  simp only [initS, Nat.reduceAdd, Nat.zero_add]
  unfold dkB dkC
  dsimp only
  repeat' (first | (refine wlS ?_) | (refine wlB ?_) | ((with_reducible refine sel_lookup ?_); refine wv rfl rfl (rd_lookupT rfl rfl rfl) ?_) | (refine efBnn ?_; intro n hn) | (refine efB ?_) | (refine efBS ?_) | (refine wl_skip rfl rfl ?_) | ((with_reducible refine wc_seq ?_); intro K hK) | (refine auC ?_) | (refine wc_cond rfl (fun hc => ?_) (fun hc => ?_)) | (refine wc_draw (by kernel_rfl) (by kernel_rfl) (by decide +kernel) ?_; intro w0 hw0 hm0; (try simp only [List.append_eq, List.cons_append, List.nil_append])) | (refine auP ?_) | ((refine auR ?_); clear hK K) | (refine auR ?_) | ((with_reducible refine hK _ _ ?_); clear hK K) | fail)
  first | refine end_ret (ResP.tmp rfl ResP.nil) ?_ | refine end_normal (ResP.tmp rfl ResP.nil) ?_
  (try dsimp only [tupV])
  exact ⟨(), _, rfl, rfl, .skip (SubL.refl _)⟩
theorem there_f (w : World) (nd : b ≠ g) (hd : Hd (dkB b g D) w) (h : sget D.m id = none) :
    Calls Try.prog 19 [ptr b, .int .i64 id].toArray w (RetU (fun _ : Unit => .bool false) (dkB b g D) (fun _ oa => oa = dkB b g D) w) := by
  obtain ⟨most, last, who, m, clock⟩ := D
  have hm : mget (m.map seE) id = none := by rw [mget_se]; dsimp only at h; rw [h]; rfl
  clear h
  have nk := dk_nd (D := ⟨most, last, who, m, clock⟩) nd
  refine fn_upd (N := _) Try.func19 rfl Try.ntmps19 Try.results19 (by simp) nk hd ?_
  simp only [initS, Nat.reduceAdd, Nat.zero_add]
  unfold dkB dkC
  dsimp only
  repeat' (first | (refine wlS ?_) | (refine wlB ?_) | ((with_reducible refine sel_lookup ?_); refine wv rfl rfl (rd_lookupF rfl rfl rfl) ?_) | (refine efBnn ?_; intro n hn) | (refine efB ?_) | (refine efBS ?_) | (refine wl_skip rfl rfl ?_) | ((with_reducible refine wc_seq ?_); intro K hK) | (refine auC ?_) | (refine wc_cond rfl (fun hc => ?_) (fun hc => ?_)) | (refine wc_draw (by kernel_rfl) (by kernel_rfl) (by decide +kernel) ?_; intro w0 hw0 hm0; (try simp only [List.append_eq, List.cons_append, List.nil_append])) | (refine auP ?_) | ((refine auR ?_); clear hK K) | (refine auR ?_) | ((with_reducible refine hK _ _ ?_); clear hK K) | fail)
  first | refine end_ret (ResP.tmp rfl ResP.nil) ?_ | refine end_normal (ResP.tmp rfl ResP.nil) ?_
  (try dsimp only [tupV])
  exact ⟨(), _, rfl, rfl, .skip (SubL.refl _)⟩
theorem state_t (w : World) (nd : b ≠ g) (hd : Hd (dkB b g D) w) (h : sget D.m id = some true) (ho : D.who = 0 ∨ D.who = 1 ∨ D.who = 2) :
    Calls Try.prog 9 [ptr b, .int .i64 id].toArray w (RetU (fun _ : Unit => .tuple #[.int .i64 (3 + D.who), .int .i64 0]) (dkB b g D) (fun _ oa => oa = dkB b g D) w) := by
  obtain ⟨most, last, who, m, clock⟩ := D
  have hm : mget (m.map seE) id = some (.agg #[.bool true]) := by rw [mget_se]; dsimp only at h; rw [h]; rfl
  clear h
  dsimp only at ho
  have hw : IntKind.i64.wrap (3 + who) = 3 + who := by rcases ho with rfl | rfl | rfl <;> decide
  clear ho
  have nk := dk_nd (D := ⟨most, last, who, m, clock⟩) nd
  refine fn_upd (N := _) Try.func9 rfl Try.ntmps9 Try.results9 (by simp) nk hd ?_
  simp only [initS, Nat.reduceAdd, Nat.zero_add]
  unfold dkB dkC
  dsimp only
  repeat' (first | (refine wlS ?_) | (refine wlB ?_) | ((with_reducible refine sel_lookup ?_); refine wv rfl rfl (rd_lookupT rfl rfl rfl) ?_) | (refine efBnn ?_; intro n hn) | (refine efB ?_) | (refine efBS ?_) | (refine wl_skip rfl rfl ?_) | ((with_reducible refine wc_seq ?_); intro K hK) | (refine auC ?_) | (refine wc_cond rfl (fun hc => ?_) (fun hc => ?_)) | (refine wc_draw (by kernel_rfl) (by kernel_rfl) (by decide +kernel) ?_; intro w0 hw0 hm0; (try simp only [List.append_eq, List.cons_append, List.nil_append])) | (refine auP ?_) | ((refine auR ?_); clear hK K) | (refine auR ?_) | ((with_reducible refine hK _ _ ?_); clear hK K) | fail)
  first | refine end_ret (ResP.tmp rfl (ResP.tmp rfl ResP.nil)) ?_ | refine end_normal (ResP.tmp rfl (ResP.tmp rfl ResP.nil)) ?_
  (try dsimp only [tupV])
  exact ⟨(), _, rfl, rfl, .skip (SubL.refl _)⟩
theorem state_f (w : World) (nd : b ≠ g) (hd : Hd (dkB b g D) w) (h : sget D.m id = some false) (ho : D.who = 0 ∨ D.who = 1 ∨ D.who = 2) :
    Calls Try.prog 9 [ptr b, .int .i64 id].toArray w (RetU (fun _ : Unit => .tuple #[.int .i64 (1 + D.who), .int .i64 0]) (dkB b g D) (fun _ oa => oa = dkB b g D) w) := by
  obtain ⟨most, last, who, m, clock⟩ := D
  have hm : mget (m.map seE) id = some (.agg #[.bool false]) := by rw [mget_se]; dsimp only at h; rw [h]; rfl
  clear h
  dsimp only at ho
  have hw : IntKind.i64.wrap (1 + who) = 1 + who := by rcases ho with rfl | rfl | rfl <;> decide
  clear ho
  have nk := dk_nd (D := ⟨most, last, who, m, clock⟩) nd
  refine fn_upd (N := _) Try.func9 rfl Try.ntmps9 Try.results9 (by simp) nk hd ?_
  simp only [initS, Nat.reduceAdd, Nat.zero_add]
  unfold dkB dkC
  dsimp only
  repeat' (first | (refine wlS ?_) | (refine wlB ?_) | ((with_reducible refine sel_lookup ?_); refine wv rfl rfl (rd_lookupT rfl rfl rfl) ?_) | (refine efBnn ?_; intro n hn) | (refine efB ?_) | (refine efBS ?_) | (refine wl_skip rfl rfl ?_) | ((with_reducible refine wc_seq ?_); intro K hK) | (refine auC ?_) | (refine wc_cond rfl (fun hc => ?_) (fun hc => ?_)) | (refine wc_draw (by kernel_rfl) (by kernel_rfl) (by decide +kernel) ?_; intro w0 hw0 hm0; (try simp only [List.append_eq, List.cons_append, List.nil_append])) | (refine auP ?_) | ((refine auR ?_); clear hK K) | (refine auR ?_) | ((with_reducible refine hK _ _ ?_); clear hK K) | fail)
  first | refine end_ret (ResP.tmp rfl (ResP.tmp rfl ResP.nil)) ?_ | refine end_normal (ResP.tmp rfl (ResP.tmp rfl ResP.nil)) ?_
  (try dsimp only [tupV])
  exact ⟨(), _, rfl, rfl, .skip (SubL.refl _)⟩
theorem state_n (w : World) (nd : b ≠ g) (hd : Hd (dkB b g D) w) (h : sget D.m id = none) :
    Calls Try.prog 9 [ptr b, .int .i64 id].toArray w (RetU (fun _ : Unit => .tuple #[.int .i64 0, .int .i64 6]) (dkB b g D) (fun _ oa => oa = dkB b g D) w) := by
  obtain ⟨most, last, who, m, clock⟩ := D
  have hm : mget (m.map seE) id = none := by rw [mget_se]; dsimp only at h; rw [h]; rfl
  clear h
  have nk := dk_nd (D := ⟨most, last, who, m, clock⟩) nd
  refine fn_upd (N := _) Try.func9 rfl Try.ntmps9 Try.results9 (by simp) nk hd ?_
  simp only [initS, Nat.reduceAdd, Nat.zero_add]
  unfold dkB dkC
  dsimp only
  repeat' (first | (refine wlS ?_) | (refine wlB ?_) | ((with_reducible refine sel_lookup ?_); refine wv rfl rfl (rd_lookupF rfl rfl rfl) ?_) | (refine efBnn ?_; intro n hn) | (refine efB ?_) | (refine efBS ?_) | (refine wl_skip rfl rfl ?_) | ((with_reducible refine wc_seq ?_); intro K hK) | (refine auC ?_) | (refine wc_cond rfl (fun hc => ?_) (fun hc => ?_)) | (refine wc_draw (by kernel_rfl) (by kernel_rfl) (by decide +kernel) ?_; intro w0 hw0 hm0; (try simp only [List.append_eq, List.cons_append, List.nil_append])) | (refine auP ?_) | ((refine auR ?_); clear hK K) | (refine auR ?_) | ((with_reducible refine hK _ _ ?_); clear hK K) | fail)
  first | refine end_ret (ResP.tmp rfl (ResP.tmp rfl ResP.nil)) ?_ | refine end_normal (ResP.tmp rfl (ResP.tmp rfl ResP.nil)) ?_
  (try dsimp only [tupV])
  exact ⟨(), _, rfl, rfl, .skip (SubL.refl _)⟩
theorem who_c (w : World) (nd : b ≠ g) (hd : Hd (dkB b g D) w) :
    Calls Try.prog 12 [ptr b].toArray w (RetU (fun _ : Unit => .int .i64 D.who) (dkB b g D) (fun _ oa => oa = dkB b g D) w) := by
  obtain ⟨most, last, who, m, clock⟩ := D
  have nk := dk_nd (D := ⟨most, last, who, m, clock⟩) nd
  refine fn_upd (N := _) Try.func12 rfl Try.ntmps12 Try.results12 (by simp) nk hd ?_
  simp only [initS, Nat.reduceAdd, Nat.zero_add]
  unfold dkB dkC
  dsimp only
  repeat' (first | (refine wlS ?_) | (refine wlB ?_) | (refine wl_skip rfl rfl ?_) | ((with_reducible refine wc_seq ?_); intro K hK) | (refine auC ?_) | (refine wc_cond rfl (fun hc => ?_) (fun hc => ?_)) | (refine wc_draw (by kernel_rfl) (by kernel_rfl) (by decide +kernel) ?_; intro w0 hw0 hm0; (try simp only [List.append_eq, List.cons_append, List.nil_append])) | (refine auP ?_) | ((refine auR ?_); clear hK K) | (refine auR ?_) | ((with_reducible refine hK _ _ ?_); clear hK K) | fail)
  first | refine end_ret (ResP.tmp rfl ResP.nil) ?_ | refine end_normal (ResP.tmp rfl ResP.nil) ?_
  (try dsimp only [tupV])
  exact ⟨(), _, rfl, rfl, SubL.refl _⟩
theorem closeAll_c (w : World) (nd : b ≠ g) (hd : Hd (dkB b g D) w) :
    Calls Try.prog 18 [ptr b].toArray w (RetU (fun _ : Unit => .int .i64 D.m.length) (dkB b g D) (fun _ oa => oa = dkB b g (allD D)) w) := by
  obtain ⟨most, last, who, m, clock⟩ := D
  have nk := dk_nd (D := ⟨most, last, who, m, clock⟩) nd
  refine fn_upd (N := _) Try.func18 rfl Try.ntmps18 Try.results18 (by simp) nk hd ?_
  simp only [initS, Nat.reduceAdd, Nat.zero_add]
  unfold dkB dkC
  dsimp only
  repeat' (first | (refine wlS ?_) | (refine wlB ?_) | ((with_reducible refine sel_call ?_); refine wv rfl rfl (rd_lenM rfl rfl rfl rfl rfl) ?_) | (refine wlE ?_) | (refine efSvao ?_; intro v oa ho) | ((with_reducible refine sel_call ?_); first | (refine wl_mclear rfl rfl rfl rfl ?_)) | (refine efB ?_) | (refine efBS ?_) | (refine wl_skip rfl rfl ?_) | ((with_reducible refine wc_seq ?_); intro K hK) | (refine auC ?_) | (refine wc_cond rfl (fun hc => ?_) (fun hc => ?_)) | (refine wc_draw (by kernel_rfl) (by kernel_rfl) (by decide +kernel) ?_; intro w0 hw0 hm0; (try simp only [List.append_eq, List.cons_append, List.nil_append])) | (refine auP ?_) | ((refine auR ?_); clear hK K) | (refine auR ?_) | ((with_reducible refine hK _ _ ?_); clear hK K) | fail)
  first | refine end_ret (ResP.tmp rfl ResP.nil) ?_ | refine end_normal (ResP.tmp rfl ResP.nil) ?_
  (try dsimp only [tupV])
  exact ⟨(), _, by rw [List.length_map], rfl, SubL.refl _⟩
theorem logout_n (w : World) (nd : b ≠ g) (hd : Hd (dkB b g D) w) (h : sget D.m id = none) :
    Calls Try.prog 11 [ptr b, .int .i64 id].toArray w (RetU (fun _ : Unit => .int .i64 6) (dkB b g D) (fun _ oa => oa = dkB b g D) w) := by
  have TH := fun w' (h' : Hd (dkB b g D) w') => there_f w' nd h' h
  have nk := dk_nd (D := D) nd
  refine fn_upd (N := _) Try.func11 rfl Try.ntmps11 Try.results11 (by simp) nk hd ?_
  simp only [initS, Nat.reduceAdd, Nat.zero_add]
  repeat' (first | (refine wlS ?_) | (refine wlB ?_) | (refine wlE ?_) | (refine efSvao ?_; intro v oa ho) | ((with_reducible refine sel_call ?_); first | (refine wl_updO rfl rfl rfl rfl rfl (fun w hm hw => by with_reducible exact TH w hw) ?_; intro x oa hx)) | (refine efB ?_) | (refine efBS ?_) | (refine wl_skip rfl rfl ?_) | ((with_reducible refine wc_seq ?_); intro K hK) | (refine auC ?_) | (refine wc_cond rfl (fun hc => ?_) (fun hc => ?_)) | (refine wc_draw (by kernel_rfl) (by kernel_rfl) (by decide +kernel) ?_; intro w0 hw0 hm0; (try simp only [List.append_eq, List.cons_append, List.nil_append])) | (refine auP ?_) | ((refine auR ?_); clear hK K) | (refine auR ?_) | ((with_reducible refine hK _ _ ?_); clear hK K) | fail)
  subst hx
  repeat' (first | (refine wlS ?_) | (refine wlB ?_) | (refine wlE ?_) | (refine efSvao ?_; intro v oa ho) | (refine efB ?_) | (refine efBS ?_) | (refine wl_skip rfl rfl ?_) | ((with_reducible refine wc_seq ?_); intro K hK) | (refine auC ?_) | (refine wc_cond rfl (fun hc => ?_) (fun hc => ?_)) | (refine wc_draw (by kernel_rfl) (by kernel_rfl) (by decide +kernel) ?_; intro w0 hw0 hm0; (try simp only [List.append_eq, List.cons_append, List.nil_append])) | (refine auP ?_) | ((refine auR ?_); clear hK K) | (refine auR ?_) | ((with_reducible refine hK _ _ ?_); clear hK K) | fail)
  first | refine end_ret (ResP.tmp rfl ResP.nil) ?_ | refine end_normal (ResP.tmp rfl ResP.nil) ?_
  (try dsimp only [tupV])
  exact ⟨(), _, rfl, rfl, SubL.refl _⟩
theorem logout_o (w : World) (nd : b ≠ g) (hd : Hd (dkB b g D) w) {r : Bool} (h : sget D.m id = some r) (ho : D.who = 0) :
    Calls Try.prog 11 [ptr b, .int .i64 id].toArray w (RetU (fun _ : Unit => .int .i64 8) (dkB b g D) (fun _ oa => oa = dkB b g D) w) := by
  have TH := fun w' (h' : Hd (dkB b g D) w') => there_t w' nd h' h
  have nk := dk_nd (D := D) nd
  clear h
  refine fn_upd (N := _) Try.func11 rfl Try.ntmps11 Try.results11 (by simp) nk hd ?_
  simp only [initS, Nat.reduceAdd, Nat.zero_add]
  repeat' (first | (refine wlS ?_) | (refine wlB ?_) | (refine wlE ?_) | (refine efSvao ?_; intro v oa ho) | ((with_reducible refine sel_call ?_); first | (refine wl_updO rfl rfl rfl rfl rfl (fun w hm hw => by with_reducible exact TH w hw) ?_; intro x oa hx)) | (refine efB ?_) | (refine efBS ?_) | (refine wl_skip rfl rfl ?_) | ((with_reducible refine wc_seq ?_); intro K hK) | (refine auC ?_) | (refine wc_cond rfl (fun hc => ?_) (fun hc => ?_)) | (refine wc_draw (by kernel_rfl) (by kernel_rfl) (by decide +kernel) ?_; intro w0 hw0 hm0; (try simp only [List.append_eq, List.cons_append, List.nil_append])) | (refine auP ?_) | ((refine auR ?_); clear hK K) | (refine auR ?_) | ((with_reducible refine hK _ _ ?_); clear hK K) | fail)
  subst hx
  clear TH nk hd
  obtain ⟨most, last, who, m, clock⟩ := D
  dsimp only at ho
  subst ho
  unfold dkB dkC
  dsimp only
  repeat' (first | (refine wlS ?_) | (refine wlB ?_) | (refine wlE ?_) | (refine efSvao ?_; intro v oa ho) | (refine efB ?_) | (refine efBS ?_) | (refine wl_skip rfl rfl ?_) | ((with_reducible refine wc_seq ?_); intro K hK) | (refine auC ?_) | (refine wc_cond rfl (fun hc => ?_) (fun hc => ?_)) | (refine wc_draw (by kernel_rfl) (by kernel_rfl) (by decide +kernel) ?_; intro w0 hw0 hm0; (try simp only [List.append_eq, List.cons_append, List.nil_append])) | (refine auP ?_) | ((refine auR ?_); clear hK K) | (refine auR ?_) | ((with_reducible refine hK _ _ ?_); clear hK K) | fail)
  first | refine end_ret (ResP.tmp rfl ResP.nil) ?_ | refine end_normal (ResP.tmp rfl ResP.nil) ?_
  (try dsimp only [tupV])
  exact ⟨(), _, rfl, rfl, SubL.refl _⟩
theorem logout_c (w : World) (nd : b ≠ g) (hd : Hd (dkB b g D) w) {r : Bool} (h : sget D.m id = some r) (ho : D.who ≠ 0) :
    Calls Try.prog 11 [ptr b, .int .i64 id].toArray w (RetU (fun _ : Unit => .int .i64 0) (dkB b g D) (fun _ oa => oa = dkB b g { D with who := 0 }) w) := by
  have TH := fun w' (h' : Hd (dkB b g D) w') => there_t w' nd h' h
  have nk := dk_nd (D := D) nd
  clear h
  refine fn_upd (N := _) Try.func11 rfl Try.ntmps11 Try.results11 (by simp) nk hd ?_
  simp only [initS, Nat.reduceAdd, Nat.zero_add]
  repeat' (first | (refine wlS ?_) | (refine wlB ?_) | (refine wlE ?_) | (refine efSvao ?_; intro v oa ho) | ((with_reducible refine sel_call ?_); first | (refine wl_updO rfl rfl rfl rfl rfl (fun w hm hw => by with_reducible exact TH w hw) ?_; intro x oa hx)) | (refine efB ?_) | (refine efBS ?_) | (refine wl_skip rfl rfl ?_) | ((with_reducible refine wc_seq ?_); intro K hK) | (refine auC ?_) | (refine wc_cond rfl (fun hc => ?_) (fun hc => ?_)) | (refine wc_draw (by kernel_rfl) (by kernel_rfl) (by decide +kernel) ?_; intro w0 hw0 hm0; (try simp only [List.append_eq, List.cons_append, List.nil_append])) | (refine auP ?_) | ((refine auR ?_); clear hK K) | (refine auR ?_) | ((with_reducible refine hK _ _ ?_); clear hK K) | fail)
  subst hx
  clear TH nk hd
  obtain ⟨most, last, who, m, clock⟩ := D
  dsimp only at ho
  have h0 : (who == 0) = false := by simpa using ho
  unfold dkB dkC
  dsimp only
  repeat' (first | (refine wlS ?_) | (refine wlB ?_) | (refine wlE ?_) | (refine efSvao ?_; intro v oa ho) | (refine efB ?_) | (refine efBS ?_) | (refine wl_skip rfl rfl ?_) | ((with_reducible refine wc_seq ?_); intro K hK) | (refine auC ?_) | (refine wc_cond rfl (fun hc => ?_) (fun hc => ?_)) | (refine wc_draw (by kernel_rfl) (by kernel_rfl) (by decide +kernel) ?_; intro w0 hw0 hm0; (try simp only [List.append_eq, List.cons_append, List.nil_append])) | (refine auP ?_) | ((refine auR ?_); clear hK K) | (refine auR ?_) | ((with_reducible refine hK _ _ ?_); clear hK K) | fail)
  first | refine end_ret (ResP.tmp rfl ResP.nil) ?_ | refine end_normal (ResP.tmp rfl ResP.nil) ?_
  (try dsimp only [tupV])
  exact ⟨(), _, rfl, rfl, SubL.refl _⟩
end
end Go.Proofs.Ythljhaioblcgfaa
namespace Go.Proofs.Ythljhaioblcgfaa
open Go.RowKit
set_option linter.unusedVariables false
set_option linter.unusedSimpArgs false
set_option maxRecDepth 100000
section
variable {b g : Nat} {D : Dk} {id role : Int}
theorem close_n (w : World) (nd : b ≠ g) (hd : Hd (dkB b g D) w) (h : sget D.m id = none) :
    Calls Try.prog 17 [ptr b, .int .i64 id].toArray w (RetU (fun _ : Unit => .int .i64 6) (dkB b g D) (fun _ oa => oa = dkB b g D) w) := by
  have TH := fun w' (h' : Hd (dkB b g D) w') => there_f w' nd h' h
  have nk := dk_nd (D := D) nd
  clear h
  refine fn_upd (N := _) Try.func17 rfl Try.ntmps17 Try.results17 (by simp) nk hd ?_
  simp only [initS, Nat.reduceAdd, Nat.zero_add]
  repeat' (first | (refine wlS ?_) | (refine wlB ?_) | (refine wlE ?_) | (refine efSvao ?_; intro v oa ho) | ((with_reducible refine sel_call ?_); first | (refine wl_updO rfl rfl rfl rfl rfl (fun w hm hw => by with_reducible exact TH w hw) ?_; intro x oa hx)) | (refine efB ?_) | (refine efBS ?_) | (refine wl_skip rfl rfl ?_) | ((with_reducible refine wc_seq ?_); intro K hK) | (refine auC ?_) | (refine wc_cond rfl (fun hc => ?_) (fun hc => ?_)) | (refine wc_draw (by kernel_rfl) (by kernel_rfl) (by decide +kernel) ?_; intro w0 hw0 hm0; (try simp only [List.append_eq, List.cons_append, List.nil_append])) | (refine auP ?_) | ((refine auR ?_); clear hK K) | (refine auR ?_) | ((with_reducible refine hK _ _ ?_); clear hK K) | fail)
  subst hx
  repeat' (first | (refine wlS ?_) | (refine wlB ?_) | (refine wlE ?_) | (refine efSvao ?_; intro v oa ho) | (refine efB ?_) | (refine efBS ?_) | (refine wl_skip rfl rfl ?_) | ((with_reducible refine wc_seq ?_); intro K hK) | (refine auC ?_) | (refine wc_cond rfl (fun hc => ?_) (fun hc => ?_)) | (refine wc_draw (by kernel_rfl) (by kernel_rfl) (by decide +kernel) ?_; intro w0 hw0 hm0; (try simp only [List.append_eq, List.cons_append, List.nil_append])) | (refine auP ?_) | ((refine auR ?_); clear hK K) | (refine auR ?_) | ((with_reducible refine hK _ _ ?_); clear hK K) | fail)
  first | refine end_ret (ResP.tmp rfl ResP.nil) ?_ | refine end_normal (ResP.tmp rfl ResP.nil) ?_
  (try dsimp only [tupV])
  exact ⟨(), _, rfl, rfl, SubL.refl _⟩
theorem close_0 (w : World) (nd : b ≠ g) (hd : Hd (dkB b g D) w) {r : Bool} (h : sget D.m id = some r) (h0 : sdel D.m id = []) :
    Calls Try.prog 17 [ptr b, .int .i64 id].toArray w (RetU (fun _ : Unit => .int .i64 0) (dkB b g D) (fun _ oa => oa = dkB b g { D with m := sdel D.m id, who := 0 }) w) := by
  have TH := fun w' (h' : Hd (dkB b g D) w') => there_t w' nd h' h
  have nk := dk_nd (D := D) nd
  clear h
  refine fn_upd (N := _) Try.func17 rfl Try.ntmps17 Try.results17 (by simp) nk hd ?_
  simp only [initS, Nat.reduceAdd, Nat.zero_add]
  repeat' (first | (refine wlS ?_) | (refine wlB ?_) | (refine wlE ?_) | (refine efSvao ?_; intro v oa ho) | ((with_reducible refine sel_call ?_); first | (refine wl_updO rfl rfl rfl rfl rfl (fun w hm hw => by with_reducible exact TH w hw) ?_; intro x oa hx)) | (refine efB ?_) | (refine efBS ?_) | (refine wl_skip rfl rfl ?_) | ((with_reducible refine wc_seq ?_); intro K hK) | (refine auC ?_) | (refine wc_cond rfl (fun hc => ?_) (fun hc => ?_)) | (refine wc_draw (by kernel_rfl) (by kernel_rfl) (by decide +kernel) ?_; intro w0 hw0 hm0; (try simp only [List.append_eq, List.cons_append, List.nil_append])) | (refine auP ?_) | ((refine auR ?_); clear hK K) | (refine auR ?_) | ((with_reducible refine hK _ _ ?_); clear hK K) | fail)
  subst hx
  clear TH nk hd
  obtain ⟨most, last, who, m, clock⟩ := D
  dsimp only at h0
  have hq : (((mdel (m.map seE) id).length : Int) == 0) = true := by rw [mdel_se, h0]; rfl
  unfold dkB dkC
  dsimp only
  repeat' (first | (refine wlS ?_) | (refine wlB ?_) | ((with_reducible refine sel_call ?_); refine wv rfl rfl (rd_lenM rfl rfl rfl rfl rfl) ?_) | (refine wlE ?_) | (refine efSvao ?_; intro v oa ho) | ((with_reducible refine sel_call ?_); first | (refine wl_mdel rfl rfl rfl rfl rfl ?_)) | (refine efB ?_) | (refine efBS ?_) | (refine wl_skip rfl rfl ?_) | ((with_reducible refine wc_seq ?_); intro K hK) | (refine auC ?_) | (refine wc_cond rfl (fun hc => ?_) (fun hc => ?_)) | (refine wc_draw (by kernel_rfl) (by kernel_rfl) (by decide +kernel) ?_; intro w0 hw0 hm0; (try simp only [List.append_eq, List.cons_append, List.nil_append])) | (refine auP ?_) | ((refine auR ?_); clear hK K) | (refine auR ?_) | ((with_reducible refine hK _ _ ?_); clear hK K) | fail)
  first | refine end_ret (ResP.tmp rfl ResP.nil) ?_ | refine end_normal (ResP.tmp rfl ResP.nil) ?_
  (try dsimp only [tupV])
  exact ⟨(), _, rfl, rfl, by rw [mdel_se]; exact SubL.refl _⟩
theorem close_1 (w : World) (nd : b ≠ g) (hd : Hd (dkB b g D) w) {r : Bool} (h : sget D.m id = some r) (h0 : sdel D.m id ≠ []) :
    Calls Try.prog 17 [ptr b, .int .i64 id].toArray w (RetU (fun _ : Unit => .int .i64 0) (dkB b g D) (fun _ oa => oa = dkB b g { D with m := sdel D.m id }) w) := by
  have TH := fun w' (h' : Hd (dkB b g D) w') => there_t w' nd h' h
  have nk := dk_nd (D := D) nd
  clear h
  refine fn_upd (N := _) Try.func17 rfl Try.ntmps17 Try.results17 (by simp) nk hd ?_
  simp only [initS, Nat.reduceAdd, Nat.zero_add]
  repeat' (first | (refine wlS ?_) | (refine wlB ?_) | (refine wlE ?_) | (refine efSvao ?_; intro v oa ho) | ((with_reducible refine sel_call ?_); first | (refine wl_updO rfl rfl rfl rfl rfl (fun w hm hw => by with_reducible exact TH w hw) ?_; intro x oa hx)) | (refine efB ?_) | (refine efBS ?_) | (refine wl_skip rfl rfl ?_) | ((with_reducible refine wc_seq ?_); intro K hK) | (refine auC ?_) | (refine wc_cond rfl (fun hc => ?_) (fun hc => ?_)) | (refine wc_draw (by kernel_rfl) (by kernel_rfl) (by decide +kernel) ?_; intro w0 hw0 hm0; (try simp only [List.append_eq, List.cons_append, List.nil_append])) | (refine auP ?_) | ((refine auR ?_); clear hK K) | (refine auR ?_) | ((with_reducible refine hK _ _ ?_); clear hK K) | fail)
  subst hx
  clear TH nk hd
  obtain ⟨most, last, who, m, clock⟩ := D
  dsimp only at h0
  have hq : (((mdel (m.map seE) id).length : Int) == 0) = false := by
    rw [mdel_se, List.length_map]
    have := List.length_pos_iff.2 h0
    simp only [beq_eq_false_iff_ne, ne_eq]
    omega
  unfold dkB dkC
  dsimp only
  repeat' (first | (refine wlS ?_) | (refine wlB ?_) | ((with_reducible refine sel_call ?_); refine wv rfl rfl (rd_lenM rfl rfl rfl rfl rfl) ?_) | (refine wlE ?_) | (refine efSvao ?_; intro v oa ho) | ((with_reducible refine sel_call ?_); first | (refine wl_mdel rfl rfl rfl rfl rfl ?_)) | (refine efB ?_) | (refine efBS ?_) | (refine wl_skip rfl rfl ?_) | ((with_reducible refine wc_seq ?_); intro K hK) | (refine auC ?_) | (refine wc_cond rfl (fun hc => ?_) (fun hc => ?_)) | (refine wc_draw (by kernel_rfl) (by kernel_rfl) (by decide +kernel) ?_; intro w0 hw0 hm0; (try simp only [List.append_eq, List.cons_append, List.nil_append])) | (refine auP ?_) | ((refine auR ?_); clear hK K) | (refine auR ?_) | ((with_reducible refine hK _ _ ?_); clear hK K) | fail)
  first | refine end_ret (ResP.tmp rfl ResP.nil) ?_ | refine end_normal (ResP.tmp rfl ResP.nil) ?_
  (try dsimp only [tupV])
  exact ⟨(), _, rfl, rfl, by rw [mdel_se]; exact SubL.refl _⟩
theorem new_bad (w : World) {most : Int} (h : most < 1 ∨ 16 < most) (hwf : (Lit.int .i64 most).wf = true) : Calls Try.prog 7 [.int .i64 most].toArray w (Ret (.tuple #[.pointer none, .int .i64 1]) w) := by
  clear hwf
  by_cases h1 : most < 1
  · have t1 : decide (most < 1) = true := decide_eq_true h1
    clear h
    refine fn_ret (N := _) Try.func7 rfl Try.ntmps7 Try.results7 (by simp) ?_
    simp only [initS, Nat.reduceAdd, Nat.zero_add]
    repeat' (first | (refine wlB ?_) | (refine wlE ?_) | (refine efBnn ?_; intro n hn) | (refine wl_skip rfl rfl ?_) | ((with_reducible refine wc_seq ?_); intro K hK) | (refine auC ?_) | (refine wc_cond rfl (fun hc => ?_) (fun hc => ?_)) | (refine wc_draw (by kernel_rfl) (by kernel_rfl) (by decide +kernel) ?_; intro w0 hw0 hm0; (try simp only [List.append_eq, List.cons_append, List.nil_append])) | (refine auP ?_) | ((refine auR ?_); clear hK K) | (refine auR ?_) | ((with_reducible refine hK _ _ ?_); clear hK K) | fail)
    first | refine end_ret (ResP.tmp rfl (ResP.tmp rfl ResP.nil)) ?_ | refine end_normal (ResP.tmp rfl (ResP.tmp rfl ResP.nil)) ?_
    first | rfl | (show _ = _; rfl) | (simp only [tupV, *]; done)
  · have t1 : decide (most < 1) = false := decide_eq_false h1
    have t2 : decide (most > 16) = true := decide_eq_true (by omega)
    clear h
    refine fn_ret (N := _) Try.func7 rfl Try.ntmps7 Try.results7 (by simp) ?_
    simp only [initS, Nat.reduceAdd, Nat.zero_add]
    repeat' (first | (refine wlB ?_) | (refine wlE ?_) | (refine efBnn ?_; intro n hn) | (refine wl_skip rfl rfl ?_) | ((with_reducible refine wc_seq ?_); intro K hK) | (refine auC ?_) | (refine wc_cond rfl (fun hc => ?_) (fun hc => ?_)) | (refine wc_draw (by kernel_rfl) (by kernel_rfl) (by decide +kernel) ?_; intro w0 hw0 hm0; (try simp only [List.append_eq, List.cons_append, List.nil_append])) | (refine auP ?_) | ((refine auR ?_); clear hK K) | (refine auR ?_) | ((with_reducible refine hK _ _ ?_); clear hK K) | fail)
    first | refine end_ret (ResP.tmp rfl (ResP.tmp rfl ResP.nil)) ?_ | refine end_normal (ResP.tmp rfl (ResP.tmp rfl ResP.nil)) ?_
    first | rfl | (show _ = _; rfl) | (simp only [tupV, *]; done)
theorem new_c0 (w : World) {most : Int} (h : 1 ≤ most ∧ most ≤ 16) : Calls Try.prog 7 [.int .i64 most].toArray w (RetO (fun b => .tuple #[ptr b, .int .i64 0]) (fun b oa => ∃ g, oa = dkB b g ⟨most, 0, 0, [], 0⟩) w) := by
  have t1 : decide (most < 1) = false := decide_eq_false (by omega)
  have t2 : decide (most > 16) = false := decide_eq_false (by omega)
  clear h
  refine fn_own (N := _) Try.func7 rfl Try.ntmps7 Try.results7 (by simp) ?_
  simp only [initS, Nat.reduceAdd, Nat.zero_add]
  repeat' (first | (refine wlB ?_) | (refine wlE ?_) | ((with_reducible refine sel_makeMap ?_); first | (refine wl_mmap rfl rfl rfl ?_; intro n hn)) | (refine efBnn ?_; intro n hn) | (refine wl_skip rfl rfl ?_) | ((with_reducible refine wc_seq ?_); intro K hK) | (refine auC ?_) | (refine wc_cond rfl (fun hc => ?_) (fun hc => ?_)) | (refine wc_draw (by kernel_rfl) (by kernel_rfl) (by decide +kernel) ?_; intro w0 hw0 hm0; (try simp only [List.append_eq, List.cons_append, List.nil_append])) | (refine auP ?_) | ((refine auR ?_); clear hK K) | (refine auR ?_) | ((with_reducible refine hK _ _ ?_); clear hK K) | fail)
  first | refine end_ret (ResP.tmp rfl (ResP.tmp rfl ResP.nil)) ?_ | refine end_normal (ResP.tmp rfl (ResP.tmp rfl ResP.nil)) ?_
  (try dsimp only [tupV])
  exact ⟨_, _, rfl, ⟨_, rfl⟩, SubL.refl _⟩
theorem new_c (w : World) {most : Int} (h : 1 ≤ most ∧ most ≤ 16) : Calls Try.prog 7 [.int .i64 most].toArray w (RetO (fun b => .tuple #[ptr b, .int .i64 0]) (fun b oa => ∃ g, b ≠ g ∧ oa = dkB b g ⟨most, 0, 0, [], 0⟩) w) :=
  (new_c0 w h).mono fun e w' ⟨x, oa, he, ⟨g, ho⟩, hup⟩ => ⟨x, oa, he, ⟨g, by
    have := hup.nd
    rw [ho] at this
    simpa [keys, dkB] using this, ho⟩, hup⟩
theorem open_7 (w : World) (nd : b ≠ g) (hd : Hd (dkB b g D) w) {r : Bool} (h : D.most ≤ (D.m.length : Int) ∨ D.last = 1073741823) :
    Calls Try.prog 15 [ptr b, .bool r].toArray w (RetU (fun _ : Unit => .tuple #[.int .i64 0, .int .i64 7]) (dkB b g D) (fun _ oa => oa = dkB b g D) w) := by
  have nk := dk_nd (D := D) nd
  obtain ⟨most, last, who, m, clock⟩ := D
  dsimp only at h
  have hl : ((m.map seE).length : Int) = m.length := by rw [List.length_map]
  by_cases h1 : most ≤ (m.length : Int)
  · have t1 : decide (((m.map seE).length : Int) ≥ most) = true := decide_eq_true (by omega)
    clear h
    refine fn_upd (N := _) Try.func15 rfl Try.ntmps15 Try.results15 (by simp) nk hd ?_
    simp only [initS, Nat.reduceAdd, Nat.zero_add]
    unfold dkB dkC
    dsimp only
    repeat' (first | (refine wlS ?_) | (refine wlB ?_) | (refine efB ?_) | (refine efBS ?_) | (refine wl_skip rfl rfl ?_) | (refine wdS ?_) | (refine wdV ?_) | (refine wdB ?_) | ((with_reducible refine seld_call ?_); refine wdv hm0 rfl rfl rfl rfl (rd_lenM rfl rfl rfl rfl rfl) ?_) | (refine wdE ?_) | (refine wd_skip rfl rfl ?_) | ((with_reducible refine seld_nil ?_); refine wd_nil hm0 ?_; clear hm0 hw0) | ((with_reducible refine wc_seq ?_); intro K hK) | (refine auC ?_) | (refine wc_cond rfl (fun hc => ?_) (fun hc => ?_)) | (refine wc_draw (by kernel_rfl) (by kernel_rfl) (by decide +kernel) ?_; intro w0 hw0 hm0; (try simp only [List.append_eq, List.cons_append, List.nil_append])) | (refine auP ?_) | ((refine auR ?_); clear hK K) | (refine auR ?_) | ((with_reducible refine hK _ _ ?_); clear hK K) | fail)
    first | refine end_ret (ResP.tmp rfl (ResP.tmp rfl ResP.nil)) ?_ | refine end_normal (ResP.tmp rfl (ResP.tmp rfl ResP.nil)) ?_
    (try dsimp only [tupV])
    exact ⟨(), _, rfl, rfl, SubL.refl _⟩
  · have t1 : decide (((m.map seE).length : Int) ≥ most) = false := decide_eq_false (by omega)
    have t2 : (last == 1073741823) = true := by simpa using h.resolve_left h1
    clear h
    refine fn_upd (N := _) Try.func15 rfl Try.ntmps15 Try.results15 (by simp) nk hd ?_
    simp only [initS, Nat.reduceAdd, Nat.zero_add]
    unfold dkB dkC
    dsimp only
    repeat' (first | (refine wlS ?_) | (refine wlB ?_) | (refine efB ?_) | (refine efBS ?_) | (refine wl_skip rfl rfl ?_) | (refine wdS ?_) | (refine wdV ?_) | (refine wdB ?_) | ((with_reducible refine seld_call ?_); refine wdv hm0 rfl rfl rfl rfl (rd_lenM rfl rfl rfl rfl rfl) ?_) | (refine wdE ?_) | (refine wd_skip rfl rfl ?_) | ((with_reducible refine seld_nil ?_); refine wd_nil hm0 ?_; clear hm0 hw0) | ((with_reducible refine wc_seq ?_); intro K hK) | (refine auC ?_) | (refine wc_cond rfl (fun hc => ?_) (fun hc => ?_)) | (refine wc_draw (by kernel_rfl) (by kernel_rfl) (by decide +kernel) ?_; intro w0 hw0 hm0; (try simp only [List.append_eq, List.cons_append, List.nil_append])) | (refine auP ?_) | ((refine auR ?_); clear hK K) | (refine auR ?_) | ((with_reducible refine hK _ _ ?_); clear hK K) | fail)
    first | refine end_ret (ResP.tmp rfl (ResP.tmp rfl ResP.nil)) ?_ | refine end_normal (ResP.tmp rfl (ResP.tmp rfl ResP.nil)) ?_
    (try dsimp only [tupV])
    exact ⟨(), _, rfl, rfl, SubL.refl _⟩
theorem open_8 (w : World) (nd : b ≠ g) (hd : Hd (dkB b g D) w) (h : (D.m.length : Int) < D.most) (h2 : D.last ≠ 1073741823) (h3 : D.who = 2) :
    Calls Try.prog 15 [ptr b, .bool false].toArray w (RetU (fun _ : Unit => .tuple #[.int .i64 0, .int .i64 8]) (dkB b g D) (fun _ oa => oa = dkB b g D) w) := by
  have nk := dk_nd (D := D) nd
  obtain ⟨most, last, who, m, clock⟩ := D
  dsimp only at h h2 h3
  subst h3
  have hl : ((m.map seE).length : Int) = m.length := by rw [List.length_map]
  have t1 : decide (((m.map seE).length : Int) ≥ most) = false := decide_eq_false (by omega)
  have t2 : (last == 1073741823) = false := by simpa using h2
  clear h
  refine fn_upd (N := _) Try.func15 rfl Try.ntmps15 Try.results15 (by simp) nk hd ?_
  simp only [initS, Nat.reduceAdd, Nat.zero_add]
  unfold dkB dkC
  dsimp only
  repeat' (first | (refine wlS ?_) | (refine wlB ?_) | (refine efB ?_) | (refine efBS ?_) | (refine wl_skip rfl rfl ?_) | (refine wdS ?_) | (refine wdV ?_) | (refine wdB ?_) | ((with_reducible refine seld_call ?_); refine wdv hm0 rfl rfl rfl rfl (rd_lenM rfl rfl rfl rfl rfl) ?_) | (refine wdE ?_) | (refine wd_skip rfl rfl ?_) | ((with_reducible refine seld_nil ?_); refine wd_nil hm0 ?_; clear hm0 hw0) | ((with_reducible refine wc_seq ?_); intro K hK) | (refine auC ?_) | (refine wc_cond rfl (fun hc => ?_) (fun hc => ?_)) | (refine wc_draw (by kernel_rfl) (by kernel_rfl) (by decide +kernel) ?_; intro w0 hw0 hm0; (try simp only [List.append_eq, List.cons_append, List.nil_append])) | (refine auP ?_) | ((refine auR ?_); clear hK K) | (refine auR ?_) | ((with_reducible refine hK _ _ ?_); clear hK K) | fail)
  first | refine end_ret (ResP.tmp rfl (ResP.tmp rfl ResP.nil)) ?_ | refine end_normal (ResP.tmp rfl (ResP.tmp rfl ResP.nil)) ?_
  (try dsimp only [tupV])
  exact ⟨(), _, rfl, rfl, SubL.refl _⟩
set_option maxHeartbeats 1000000 in
theorem open_t (w : World) (nd : b ≠ g) (hd : Hd (dkB b g D) w) (h : (D.m.length : Int) < D.most) (h0 : 0 ≤ D.last) (h2 : D.last < 1073741823) (hn : sget D.m (D.last + 1) = none) :
    Calls Try.prog 15 [ptr b, .bool true].toArray w (RetU (fun _ : Unit => .tuple #[.int .i64 (D.last + 1), .int .i64 0]) (dkB b g D) (fun _ oa => oa = dkB b g { D with last := D.last + 1, m := D.m ++ [(D.last + 1, true, D.clock)], clock := D.clock + 1 }) w) := by
  have nk := dk_nd (D := D) nd
  obtain ⟨most, last, who, m, clock⟩ := D
  dsimp only at h h0 h2 hn
  have hl : ((m.map seE).length : Int) = m.length := by rw [List.length_map]
  have t1 : decide (((m.map seE).length : Int) ≥ most) = false := decide_eq_false (by omega)
  have t2 : (last == 1073741823) = false := by simp only [beq_eq_false_iff_ne, ne_eq]; omega
  have hwr : IntKind.i64.wrap (last + 1) = last + 1 := wrap_i64 _ (by omega) (by omega)
  have hms := mset_se hn true clock
  clear h h2 hn
  refine fn_upd (N := _) Try.func15 rfl Try.ntmps15 Try.results15 (by simp) nk hd ?_
  simp only [initS, Nat.reduceAdd, Nat.zero_add]
  unfold dkB dkC
  dsimp only
  repeat' (first | (refine wlS ?_) | (refine wlB ?_) | ((with_reducible refine sel_call ?_); refine wv rfl rfl (rd_lenM rfl rfl rfl rfl rfl) ?_) | (refine wlE ?_) | (refine efSvao ?_; intro v oa ho) | ((with_reducible refine sel_mapUpdate ?_); first | (refine wl_mset rfl rfl rfl rfl rfl rfl ?_)) | (refine efB ?_) | (refine efBS ?_) | (refine wl_skip rfl rfl ?_) | (refine wdS ?_) | (refine wdV ?_) | (refine wdB ?_) | ((with_reducible refine seld_call ?_); refine wdv hm0 rfl rfl rfl rfl (rd_lenM rfl rfl rfl rfl rfl) ?_) | (refine wdE ?_) | (refine wd_skip rfl rfl ?_) | ((with_reducible refine seld_nil ?_); refine wd_nil hm0 ?_; clear hm0 hw0) | ((with_reducible refine wc_seq ?_); intro K hK) | (refine auC ?_) | (refine wc_cond rfl (fun hc => ?_) (fun hc => ?_)) | (refine wc_draw (id := 1) (by kernel_rfl) (by kernel_rfl) (by decide +kernel) ?_; intro w0 hw0 hm0; (try simp only [List.append_eq, List.cons_append, List.nil_append])) | ((with_reducible refine wc_drawH _ [10] (by kernel_rfl) (SubL.refl _) ?_); (try simp only [List.append_eq, List.cons_append, List.nil_append, List.length_cons, List.length_nil, Nat.reduceAdd])) | ((with_reducible refine sel_wh ?_); (refine wh_if (by decide +kernel) ?_); first | (refine wh_take (lq := []) rfl rfl rfl rfl (by first | exact rvS | exact rvB | ((with_reducible apply selr_call); exact rd_lenM rfl rfl rfl rfl rfl) | exact rvE) (Or.inl rfl) ?_) | (refine wh_takeL rfl rfl rfl rfl (by first | exact rvS | exact rvB | ((with_reducible apply selr_call); exact rd_lenM rfl rfl rfl rfl rfl) | exact rvE) (by decide +kernel) ?_)) | (refine whS ?_; intro v hv hp) | ((with_reducible refine sel_wh ?_); first | (refine wh_pass rfl rfl rfl rfl ?_) | (refine wh_done rfl ?_) | (refine wh_all rfl ?_)) | ((with_reducible refine sel_rest ?_); first | exact rest_nil rfl | refine rest_cons rfl rfl ?_ ?_) | ((with_reducible refine sel_nx ?_); first | refine next_of ?_ | refine next_late (by decide +kernel) ?_) | (refine auP ?_) | ((refine auR ?_); clear hK K) | (refine auR ?_) | ((with_reducible refine hK _ _ ?_); clear hK K) | fail)
  first | refine end_ret (ResP.tmp rfl (ResP.tmp rfl ResP.nil)) ?_ | refine end_normal (ResP.tmp rfl (ResP.tmp rfl ResP.nil)) ?_
  (try dsimp only [tupV])
  refine ⟨(), _, rfl, rfl, ?_⟩
  show SubL _ [(b, _), (g, mapB (mset (m.map seE) (last + 1) (seV true) clock).1 (mset (m.map seE) (last + 1) (seV true) clock).2)]
  rw [hms]
  exact SubL.refl _
set_option maxHeartbeats 1000000 in
theorem open_f (w : World) (nd : b ≠ g) (hd : Hd (dkB b g D) w) (h : (D.m.length : Int) < D.most) (h0 : 0 ≤ D.last) (h2 : D.last < 1073741823) (h3 : D.who ≠ 2) (hn : sget D.m (D.last + 1) = none) :
    Calls Try.prog 15 [ptr b, .bool false].toArray w (RetU (fun _ : Unit => .tuple #[.int .i64 (D.last + 1), .int .i64 0]) (dkB b g D) (fun _ oa => oa = dkB b g { D with last := D.last + 1, m := D.m ++ [(D.last + 1, false, D.clock)], clock := D.clock + 1 }) w) := by
  have nk := dk_nd (D := D) nd
  obtain ⟨most, last, who, m, clock⟩ := D
  dsimp only at h h0 h2 hn
  dsimp only at h3
  have t4 : (who == 2) = false := by simpa using h3
  clear h3
  have hl : ((m.map seE).length : Int) = m.length := by rw [List.length_map]
  have t1 : decide (((m.map seE).length : Int) ≥ most) = false := decide_eq_false (by omega)
  have t2 : (last == 1073741823) = false := by simp only [beq_eq_false_iff_ne, ne_eq]; omega
  have hwr : IntKind.i64.wrap (last + 1) = last + 1 := wrap_i64 _ (by omega) (by omega)
  have hms := mset_se hn false clock
  clear h h2 hn
  refine fn_upd (N := _) Try.func15 rfl Try.ntmps15 Try.results15 (by simp) nk hd ?_
  simp only [initS, Nat.reduceAdd, Nat.zero_add]
  unfold dkB dkC
  dsimp only
  repeat' (first | (refine wlS ?_) | (refine wlB ?_) | ((with_reducible refine sel_call ?_); refine wv rfl rfl (rd_lenM rfl rfl rfl rfl rfl) ?_) | (refine wlE ?_) | (refine efSvao ?_; intro v oa ho) | ((with_reducible refine sel_mapUpdate ?_); first | (refine wl_mset rfl rfl rfl rfl rfl rfl ?_)) | (refine efB ?_) | (refine efBS ?_) | (refine wl_skip rfl rfl ?_) | (refine wdS ?_) | (refine wdV ?_) | (refine wdB ?_) | ((with_reducible refine seld_call ?_); refine wdv hm0 rfl rfl rfl rfl (rd_lenM rfl rfl rfl rfl rfl) ?_) | (refine wdE ?_) | (refine wd_skip rfl rfl ?_) | ((with_reducible refine seld_nil ?_); refine wd_nil hm0 ?_; clear hm0 hw0) | ((with_reducible refine wc_seq ?_); intro K hK) | (refine auC ?_) | (refine wc_cond rfl (fun hc => ?_) (fun hc => ?_)) | (refine wc_draw (id := 1) (by kernel_rfl) (by kernel_rfl) (by decide +kernel) ?_; intro w0 hw0 hm0; (try simp only [List.append_eq, List.cons_append, List.nil_append])) | ((with_reducible refine wc_drawH _ [10] (by kernel_rfl) (SubL.refl _) ?_); (try simp only [List.append_eq, List.cons_append, List.nil_append, List.length_cons, List.length_nil, Nat.reduceAdd])) | ((with_reducible refine sel_wh ?_); (refine wh_if (by decide +kernel) ?_); first | (refine wh_take (lq := []) rfl rfl rfl rfl (by first | exact rvS | exact rvB | ((with_reducible apply selr_call); exact rd_lenM rfl rfl rfl rfl rfl) | exact rvE) (Or.inl rfl) ?_) | (refine wh_takeL rfl rfl rfl rfl (by first | exact rvS | exact rvB | ((with_reducible apply selr_call); exact rd_lenM rfl rfl rfl rfl rfl) | exact rvE) (by decide +kernel) ?_)) | (refine whS ?_; intro v hv hp) | ((with_reducible refine sel_wh ?_); first | (refine wh_pass rfl rfl rfl rfl ?_) | (refine wh_done rfl ?_) | (refine wh_all rfl ?_)) | ((with_reducible refine sel_rest ?_); first | exact rest_nil rfl | refine rest_cons rfl rfl ?_ ?_) | ((with_reducible refine sel_nx ?_); first | refine next_of ?_ | refine next_late (by decide +kernel) ?_) | (refine auP ?_) | ((refine auR ?_); clear hK K) | (refine auR ?_) | ((with_reducible refine hK _ _ ?_); clear hK K) | fail)
  first | refine end_ret (ResP.tmp rfl (ResP.tmp rfl ResP.nil)) ?_ | refine end_normal (ResP.tmp rfl (ResP.tmp rfl ResP.nil)) ?_
  (try dsimp only [tupV])
  refine ⟨(), _, rfl, rfl, ?_⟩
  show SubL _ [(b, _), (g, mapB (mset (m.map seE) (last + 1) (seV false) clock).1 (mset (m.map seE) (last + 1) (seV false) clock).2)]
  rw [hms]
  exact SubL.refl _
end
end Go.Proofs.Ythljhaioblcgfaa
namespace Go.Proofs.Ythljhaioblcgfaa
open Go.RowKit
set_option linter.unusedVariables false
set_option linter.unusedSimpArgs false
set_option maxRecDepth 100000
theorem nd_inj {α β : Type} (f : α → β) : ∀ {l : List α}, (l.map f).Nodup → ∀ x ∈ l, ∀ y ∈ l, f x = f y → x = y
  | [], _, x, hx, _, _, _ => by cases hx
  | a :: r, h, x, hx, y, hy, e => by
    simp only [List.map_cons, List.nodup_cons] at h
    rcases List.mem_cons.1 hx with h1 | h1
    · rcases List.mem_cons.1 hy with h2 | h2
      · rw [h1, h2]
      · exact absurd (List.mem_map.2 ⟨y, h2, by rw [← e, h1]⟩) h.1
    · rcases List.mem_cons.1 hy with h2 | h2
      · exact absurd (List.mem_map.2 ⟨x, h1, by rw [e, h2]⟩) h.1
      · exact nd_inj f h.2 x h1 y h2 e
theorem filter_le {α : Type} {p q : α → Bool} (h : ∀ x, p x = true → q x = true) : ∀ l : List α, (l.filter p).length ≤ (l.filter q).length
  | [] => Nat.le_refl _
  | a :: r => by
    have ih := filter_le h r
    rw [List.filter_cons, List.filter_cons]
    cases hp : p a with
    | true => rw [h a hp]; simpa using ih
    | false => cases q a <;> simp <;> omega
theorem filter_lt {α : Type} {p q : α → Bool} (h : ∀ x, p x = true → q x = true) : ∀ {l : List α} {z : α}, z ∈ l → q z = true → p z = false → (l.filter p).length < (l.filter q).length
  | a :: r, z, hz, h1, h2 => by
    rw [List.filter_cons, List.filter_cons]
    rcases List.mem_cons.1 hz with rfl | hz
    · rw [h1, h2]
      have := filter_le h r
      simp; omega
    · have ih := filter_lt h hz h1 h2
      cases hp : p a with
      | true => rw [h a hp]; simpa using ih
      | false => cases q a <;> simp <;> omega
section
variable {b g : Nat} {D : Dk} {id role : Int}
theorem login_n (w : World) (nd : b ≠ g) (hd : Hd (dkB b g D) w) (h : sget D.m id = none) :
    Calls Try.prog 10 [ptr b, .int .i64 id, .int .i64 role].toArray w (RetU (fun _ : Unit => .int .i64 6) (dkB b g D) (fun _ oa => oa = dkB b g D) w) := by
  have TH := fun w' (h' : Hd (dkB b g D) w') => there_f w' nd h' h
  have nk := dk_nd (D := D) nd
  clear h
  refine fn_upd (N := _) Try.func10 rfl Try.ntmps10 Try.results10 (by simp) nk hd ?_
  simp only [initS, Nat.reduceAdd, Nat.zero_add]
  repeat' (first | (refine wlS ?_) | (refine wlB ?_) | (refine wlE ?_) | (refine efSvao ?_; intro v oa ho) | ((with_reducible refine sel_call ?_); first | (refine wl_updO rfl rfl rfl rfl rfl (fun w hm hw => by with_reducible exact TH w hw) ?_; intro x oa hx)) | (refine efBnn ?_; intro n hn) | (refine efB ?_) | (refine efBS ?_) | (refine wl_skip rfl rfl ?_) | ((with_reducible refine wc_seq ?_); intro K hK) | (refine auC ?_) | (refine wc_cond rfl (fun hc => ?_) (fun hc => ?_)) | (refine wc_draw (by kernel_rfl) (by kernel_rfl) (by decide +kernel) ?_; intro w0 hw0 hm0; (try simp only [List.append_eq, List.cons_append, List.nil_append])) | (refine auP ?_) | ((refine auR ?_); clear hK K) | (refine auR ?_) | ((with_reducible refine hK _ _ ?_); clear hK K) | fail)
  subst hx
  repeat' (first | (refine wlS ?_) | (refine wlB ?_) | (refine wlE ?_) | (refine efSvao ?_; intro v oa ho) | (refine efBnn ?_; intro n hn) | (refine efB ?_) | (refine efBS ?_) | (refine wl_skip rfl rfl ?_) | ((with_reducible refine wc_seq ?_); intro K hK) | (refine auC ?_) | (refine wc_cond rfl (fun hc => ?_) (fun hc => ?_)) | (refine wc_draw (by kernel_rfl) (by kernel_rfl) (by decide +kernel) ?_; intro w0 hw0 hm0; (try simp only [List.append_eq, List.cons_append, List.nil_append])) | (refine auP ?_) | ((refine auR ?_); clear hK K) | (refine auR ?_) | ((with_reducible refine hK _ _ ?_); clear hK K) | fail)
  first | refine end_ret (ResP.tmp rfl ResP.nil) ?_ | refine end_normal (ResP.tmp rfl ResP.nil) ?_
  (try dsimp only [tupV])
  exact ⟨(), _, rfl, rfl, SubL.refl _⟩
theorem login_1 (w : World) (nd : b ≠ g) (hd : Hd (dkB b g D) w) {r : Bool} (h : sget D.m id = some r) (hr : role ≠ 1 ∧ role ≠ 2) :
    Calls Try.prog 10 [ptr b, .int .i64 id, .int .i64 role].toArray w (RetU (fun _ : Unit => .int .i64 1) (dkB b g D) (fun _ oa => oa = dkB b g D) w) := by
  have TH := fun w' (h' : Hd (dkB b g D) w') => there_t w' nd h' h
  have nk := dk_nd (D := D) nd
  have t1 : (role != 1) = true := by simpa using hr.1
  have t2 : (role != 2) = true := by simpa using hr.2
  clear h hr
  refine fn_upd (N := _) Try.func10 rfl Try.ntmps10 Try.results10 (by simp) nk hd ?_
  simp only [initS, Nat.reduceAdd, Nat.zero_add]
  repeat' (first | (refine wlS ?_) | (refine wlB ?_) | (refine wlE ?_) | (refine efSvao ?_; intro v oa ho) | ((with_reducible refine sel_call ?_); first | (refine wl_updO rfl rfl rfl rfl rfl (fun w hm hw => by with_reducible exact TH w hw) ?_; intro x oa hx)) | (refine efBnn ?_; intro n hn) | (refine efB ?_) | (refine efBS ?_) | (refine wl_skip rfl rfl ?_) | ((with_reducible refine wc_seq ?_); intro K hK) | (refine auC ?_) | (refine wc_cond rfl (fun hc => ?_) (fun hc => ?_)) | (refine wc_draw (by kernel_rfl) (by kernel_rfl) (by decide +kernel) ?_; intro w0 hw0 hm0; (try simp only [List.append_eq, List.cons_append, List.nil_append])) | (refine auP ?_) | ((refine auR ?_); clear hK K) | (refine auR ?_) | ((with_reducible refine hK _ _ ?_); clear hK K) | fail)
  subst hx
  repeat' (first | (refine wlS ?_) | (refine wlB ?_) | (refine wlE ?_) | (refine efSvao ?_; intro v oa ho) | (refine efBnn ?_; intro n hn) | (refine efB ?_) | (refine efBS ?_) | (refine wl_skip rfl rfl ?_) | ((with_reducible refine wc_seq ?_); intro K hK) | (refine auC ?_) | (refine wc_cond rfl (fun hc => ?_) (fun hc => ?_)) | (refine wc_draw (by kernel_rfl) (by kernel_rfl) (by decide +kernel) ?_; intro w0 hw0 hm0; (try simp only [List.append_eq, List.cons_append, List.nil_append])) | (refine auP ?_) | ((refine auR ?_); clear hK K) | (refine auR ?_) | ((with_reducible refine hK _ _ ?_); clear hK K) | fail)
  first | refine end_ret (ResP.tmp rfl ResP.nil) ?_ | refine end_normal (ResP.tmp rfl ResP.nil) ?_
  (try dsimp only [tupV])
  exact ⟨(), _, rfl, rfl, SubL.refl _⟩
theorem login_8 (w : World) (nd : b ≠ g) (hd : Hd (dkB b g D) w) {r : Bool} (h : sget D.m id = some r) (hr : role = 1 ∨ role = 2) (ho : D.who ≠ 0) :
    Calls Try.prog 10 [ptr b, .int .i64 id, .int .i64 role].toArray w (RetU (fun _ : Unit => .int .i64 8) (dkB b g D) (fun _ oa => oa = dkB b g D) w) := by
  have TH := fun w' (h' : Hd (dkB b g D) w') => there_t w' nd h' h
  have nk := dk_nd (D := D) nd
  have t3 : (D.who != 0) = true := by simpa using ho
  clear h ho
  rcases hr with rfl | rfl
  all_goals (
    refine fn_upd (N := _) Try.func10 rfl Try.ntmps10 Try.results10 (by simp) nk hd ?_
    simp only [initS, Nat.reduceAdd, Nat.zero_add]
    repeat' (first | (refine wlS ?_) | (refine wlB ?_) | (refine wlE ?_) | (refine efSvao ?_; intro v oa ho) | ((with_reducible refine sel_call ?_); first | (refine wl_updO rfl rfl rfl rfl rfl (fun w hm hw => by with_reducible exact TH w hw) ?_; intro x oa hx)) | (refine efBnn ?_; intro n hn) | (refine efB ?_) | (refine efBS ?_) | (refine wl_skip rfl rfl ?_) | ((with_reducible refine wc_seq ?_); intro K hK) | (refine auC ?_) | (refine wc_cond rfl (fun hc => ?_) (fun hc => ?_)) | (refine wc_draw (by kernel_rfl) (by kernel_rfl) (by decide +kernel) ?_; intro w0 hw0 hm0; (try simp only [List.append_eq, List.cons_append, List.nil_append])) | (refine auP ?_) | ((refine auR ?_); clear hK K) | (refine auR ?_) | ((with_reducible refine hK _ _ ?_); clear hK K) | fail)
    subst hx
    clear TH nk hd
    obtain ⟨most, last, who, m, clock⟩ := D
    dsimp only at t3
    unfold dkB dkC
    dsimp only
    repeat' (first | (refine wlS ?_) | (refine wlB ?_) | (refine wlE ?_) | (refine efSvao ?_; intro v oa ho) | (refine efBnn ?_; intro n hn) | (refine efB ?_) | (refine efBS ?_) | (refine wl_skip rfl rfl ?_) | ((with_reducible refine wc_seq ?_); intro K hK) | (refine auC ?_) | (refine wc_cond rfl (fun hc => ?_) (fun hc => ?_)) | (refine wc_draw (by kernel_rfl) (by kernel_rfl) (by decide +kernel) ?_; intro w0 hw0 hm0; (try simp only [List.append_eq, List.cons_append, List.nil_append])) | (refine auP ?_) | ((refine auR ?_); clear hK K) | (refine auR ?_) | ((with_reducible refine hK _ _ ?_); clear hK K) | fail)
    first | refine end_ret (ResP.tmp rfl ResP.nil) ?_ | refine end_normal (ResP.tmp rfl ResP.nil) ?_
    (try dsimp only [tupV])
    exact ⟨(), _, rfl, rfl, SubL.refl _⟩)
theorem login_u (w : World) (nd : b ≠ g) (hd : Hd (dkB b g D) w) {r : Bool} (h : sget D.m id = some r) (ho : D.who = 0) :
    Calls Try.prog 10 [ptr b, .int .i64 id, .int .i64 1].toArray w (RetU (fun _ : Unit => .int .i64 0) (dkB b g D) (fun _ oa => oa = dkB b g { D with who := 1 }) w) := by
  have TH := fun w' (h' : Hd (dkB b g D) w') => there_t w' nd h' h
  have nk := dk_nd (D := D) nd
  clear h
  refine fn_upd (N := _) Try.func10 rfl Try.ntmps10 Try.results10 (by simp) nk hd ?_
  simp only [initS, Nat.reduceAdd, Nat.zero_add]
  repeat' (first | (refine wlS ?_) | (refine wlB ?_) | (refine wlE ?_) | (refine efSvao ?_; intro v oa ho) | ((with_reducible refine sel_call ?_); first | (refine wl_updO rfl rfl rfl rfl rfl (fun w hm hw => by with_reducible exact TH w hw) ?_; intro x oa hx)) | (refine efBnn ?_; intro n hn) | (refine efB ?_) | (refine efBS ?_) | (refine wl_skip rfl rfl ?_) | ((with_reducible refine wc_seq ?_); intro K hK) | (refine auC ?_) | (refine wc_cond rfl (fun hc => ?_) (fun hc => ?_)) | (refine wc_draw (by kernel_rfl) (by kernel_rfl) (by decide +kernel) ?_; intro w0 hw0 hm0; (try simp only [List.append_eq, List.cons_append, List.nil_append])) | (refine auP ?_) | ((refine auR ?_); clear hK K) | (refine auR ?_) | ((with_reducible refine hK _ _ ?_); clear hK K) | fail)
  subst hx
  clear TH nk hd
  obtain ⟨most, last, who, m, clock⟩ := D
  dsimp only at ho
  subst ho
  unfold dkB dkC
  dsimp only
  repeat' (first | (refine wlS ?_) | (refine wlB ?_) | (refine wlE ?_) | (refine efSvao ?_; intro v oa ho) | (refine efBnn ?_; intro n hn) | (refine efB ?_) | (refine efBS ?_) | (refine wl_skip rfl rfl ?_) | ((with_reducible refine wc_seq ?_); intro K hK) | (refine auC ?_) | (refine wc_cond rfl (fun hc => ?_) (fun hc => ?_)) | (refine wc_draw (by kernel_rfl) (by kernel_rfl) (by decide +kernel) ?_; intro w0 hw0 hm0; (try simp only [List.append_eq, List.cons_append, List.nil_append])) | (refine auP ?_) | ((refine auR ?_); clear hK K) | (refine auR ?_) | ((with_reducible refine hK _ _ ?_); clear hK K) | fail)
  first | refine end_ret (ResP.tmp rfl ResP.nil) ?_ | refine end_normal (ResP.tmp rfl ResP.nil) ?_
  (try dsimp only [tupV])
  exact ⟨(), _, rfl, rfl, SubL.refl _⟩
theorem login_o (w : World) (nd : b ≠ g) (hd : Hd (dkB b g D) w) {r : Bool} (h : sget D.m id = some r) (ho : D.who = 0) (hm : DkOk D) :
    Calls Try.prog 10 [ptr b, .int .i64 id, .int .i64 2].toArray w (RetU (fun e : Int => .int .i64 e) (dkB b g D) (fun e oa => (e = 8 ∧ (∃ x ∈ D.m, x.2.1 = false) ∧ oa = dkB b g D) ∨ (e = 0 ∧ (∀ x ∈ D.m, x.2.1 = true) ∧ oa = dkB b g { D with who := 2 })) w) := by
  have TH := fun w' (h' : Hd (dkB b g D) w') => there_t w' nd h' h
  have nk := dk_nd (D := D) nd
  clear h
  refine fn_upd (N := _) Try.func10 rfl Try.ntmps10 Try.results10 (by simp) nk hd ?_
  simp only [initS, Nat.reduceAdd, Nat.zero_add]
  repeat' (first | (refine wlS ?_) | (refine wlB ?_) | (refine wlE ?_) | (refine efSvao ?_; intro v oa ho) | ((with_reducible refine sel_call ?_); first | (refine wl_updO rfl rfl rfl rfl rfl (fun w hm hw => by with_reducible exact TH w hw) ?_; intro x oa hx)) | (refine efBnn ?_; intro n hn) | (refine efB ?_) | (refine efBS ?_) | (refine wl_skip rfl rfl ?_) | ((with_reducible refine wc_seq ?_); intro K hK) | (refine auC ?_) | (refine wc_cond rfl (fun hc => ?_) (fun hc => ?_)) | (refine wc_draw (by kernel_rfl) (by kernel_rfl) (by decide +kernel) ?_; intro w0 hw0 hm0; (try simp only [List.append_eq, List.cons_append, List.nil_append])) | (refine auP ?_) | ((refine auR ?_); clear hK K) | (refine auR ?_) | ((with_reducible refine hK _ _ ?_); clear hK K) | fail)
  subst hx
  clear TH nk hd
  have mok := hm.mok
  clear hm
  obtain ⟨most, last, who, m, clock⟩ := D
  dsimp only at ho mok
  subst ho
  unfold dkB dkC
  dsimp only
  repeat' (first | (refine wlS ?_) | (refine wlB ?_) | (refine wlE ?_) | (refine efSvao ?_; intro v oa ho) | ((with_reducible refine sel_range ?_); first | (refine wl_range rfl rfl rfl rfl ?_; intro n hn)) | (refine efBnn ?_; intro n hn) | (refine efB ?_) | (refine efBS ?_) | (refine wl_skip rfl rfl ?_) | ((with_reducible refine wc_seq ?_); intro K hK) | (refine auC ?_) | (refine wc_cond rfl (fun hc => ?_) (fun hc => ?_)) | (refine wc_draw (by kernel_rfl) (by kernel_rfl) (by decide +kernel) ?_; intro w0 hw0 hm0; (try simp only [List.append_eq, List.cons_append, List.nil_append])) | (refine auP ?_) | ((refine auR ?_); clear hK K) | (refine auR ?_) | ((with_reducible refine hK _ _ ?_); clear hK K) | fail)
  refine wc_loop (σ := List Nat) (fun _ => [(0, ptr b), (2, .int .i64 2), (33, ptr n)]) (fun seen => [(n, iterB g clock seen clock), (b, (#[.int .i64 most, .int .i64 last, .int .i64 0, .map (some g)], 44)), (g, mapB (m.map seE) clock)])
    (fun seen => ∀ x ∈ m, x.2.2 ∈ seen → x.2.1 = true) (fun seen => (m.filter fun x => !seen.contains x.2.2).length) [] (fun _ _ h => by cases h) (Fits.of ⟨rfl, rfl, rfl, trivial⟩ (SubL.refl _) rfl) ?_
  intro seen hok
  repeat' (first | (refine wlS ?_) | (refine wlB ?_) | (refine wlE ?_) | (refine efSvao ?_; intro v oa ho) | (refine efBnn ?_; intro n hn) | (refine efB ?_) | (refine efBS ?_) | (refine wl_skip rfl rfl ?_) | ((with_reducible refine wc_seq ?_); intro K hK) | (refine auC ?_) | (refine wc_cond rfl (fun hc => ?_) (fun hc => ?_)) | (refine wc_draw (by kernel_rfl) (by kernel_rfl) (by decide +kernel) ?_; intro w0 hw0 hm0; (try simp only [List.append_eq, List.cons_append, List.nil_append])) | (refine auP ?_) | ((refine auR ?_); clear hK K) | (refine auR ?_) | ((with_reducible refine hK _ _ ?_); clear hK K) | fail)
  refine wl_next rfl rfl rfl rfl mok (fun hall => ?_) (fun y hy hny => ?_)
  · have hal : ∀ x ∈ m, x.2.1 = true := fun x hx => hok x hx (hall (seE x) (List.mem_map.2 ⟨x, hx, rfl⟩))
    clear hok hall
    repeat' (first | (refine wlS ?_) | (refine wlB ?_) | (refine wlE ?_) | (refine efSvao ?_; intro v oa ho) | (refine efBnn ?_; intro n hn) | (refine efB ?_) | (refine efBS ?_) | (refine wl_skip rfl rfl ?_) | ((with_reducible refine wc_seq ?_); intro K hK) | (refine auC ?_) | (refine wc_cond rfl (fun hc => ?_) (fun hc => ?_)) | (refine wc_draw (by kernel_rfl) (by kernel_rfl) (by decide +kernel) ?_; intro w0 hw0 hm0; (try simp only [List.append_eq, List.cons_append, List.nil_append])) | (refine auP ?_) | ((refine auR ?_); clear hK K) | (refine auR ?_) | ((with_reducible refine hK _ _ ?_); clear hK K) | fail)
    first | refine end_ret (ResP.tmp rfl ResP.nil) ?_ | refine end_normal (ResP.tmp rfl ResP.nil) ?_
    (try dsimp only [tupV])
    exact ⟨0, _, rfl, .inr ⟨rfl, hal, rfl⟩, .skip (SubL.refl _)⟩
  · obtain ⟨⟨k, rw', c⟩, hz, rfl⟩ := List.mem_map.1 hy
    have hme : ((k, .agg #[.bool rw'], c) : Ent) ∈ m.map seE := hy
    clear hy
    dsimp only [seE, seV] at hny
    dsimp only [seE, seV]
    cases rw' with
    | false =>
      repeat' (first | (refine wlS ?_) | (refine wlB ?_) | ((with_reducible refine sel_entry ?_); refine wv rfl rfl (rd_entryK rfl rfl) ?_) | (refine wlE ?_) | (refine efSvao ?_; intro v oa ho) | (refine efBnn ?_; intro n hn) | (refine efB ?_) | (refine efBS ?_) | (refine wl_skip rfl rfl ?_) | ((with_reducible refine wc_seq ?_); intro K hK) | (refine auC ?_) | (refine wc_cond rfl (fun hc => ?_) (fun hc => ?_)) | (refine wc_draw (by kernel_rfl) (by kernel_rfl) (by decide +kernel) ?_; intro w0 hw0 hm0; (try simp only [List.append_eq, List.cons_append, List.nil_append])) | (refine auP ?_) | ((refine auR ?_); clear hK K) | (refine auR ?_) | ((with_reducible refine hK _ _ ?_); clear hK K) | fail)
      first | refine end_ret (ResP.tmp rfl ResP.nil) ?_ | refine end_normal (ResP.tmp rfl ResP.nil) ?_
      (try dsimp only [tupV])
      exact ⟨8, _, rfl, .inl ⟨rfl, ⟨_, hz, rfl⟩, rfl⟩, .skip (.skip (SubL.refl _))⟩
    | true =>
      repeat' (first | (refine wlS ?_) | (refine wlB ?_) | ((with_reducible refine sel_entry ?_); refine wv rfl rfl (rd_entryK rfl rfl) ?_) | (refine wlE ?_) | (refine efSvao ?_; intro v oa ho) | (refine efBnn ?_; intro n hn) | (refine efB ?_) | (refine efBS ?_) | (refine wl_skip rfl rfl ?_) | ((with_reducible refine wc_seq ?_); intro K hK) | (refine auC ?_) | (refine wc_cond rfl (fun hc => ?_) (fun hc => ?_)) | (refine wc_draw (by kernel_rfl) (by kernel_rfl) (by decide +kernel) ?_; intro w0 hw0 hm0; (try simp only [List.append_eq, List.cons_append, List.nil_append])) | (refine auP ?_) | ((refine auR ?_); clear hK K) | (refine auR ?_) | ((with_reducible refine hK _ _ ?_); clear hK K) | fail)
      refine ⟨seen ++ [c], fun x hx hin => ?_, ?_, Fits.of ⟨rfl, rfl, rfl, trivial⟩ (.skip (SubL.refl _)) rfl⟩
      · rcases List.mem_append.1 hin with h1 | h1
        · exact hok x hx h1
        · have hnd := mok.nd
          rw [List.map_map] at hnd
          have := nd_inj _ hnd x hx _ hz (by simpa [seE] using h1)
          rw [this]
      · refine filter_lt (fun x hx => ?_) hz (by simpa using hny) (by simp)
        simp only [Bool.not_eq_true', List.contains_eq_mem, decide_eq_false_iff_not, List.mem_append, not_or] at hx ⊢
        exact hx.1
end
end Go.Proofs.Ythljhaioblcgfaa
namespace Go.Proofs.Ythljhaioblcgfaa
set_option linter.unusedVariables false
set_option linter.unusedSimpArgs false
section
variable {b g : Nat} {D : Dk} {id role : Int}
theorem DkOk.fresh (h : DkOk D) : sget D.m (D.last + 1) = none := sget_none.2 fun x hx e => by
  have := (h.below x hx).2
  omega
theorem open_s (w : World) (nd : b ≠ g) (hd : Hd (dkB b g D) w) (hD : DkOk D) (r : Bool) :
    Calls Try.prog 15 [ptr b, .bool r].toArray w (RetU (fun _ : Unit => .tuple #[.int .i64 (openN D r), .int .i64 (openE D r)]) (dkB b g D) (fun _ oa => oa = dkB b g (openD D r)) w) := by
  by_cases h1 : D.most ≤ (D.m.length : Int) ∨ D.last = 1073741823
  · have e : openE D r = 7 := by unfold openE; rw [if_pos h1]
    unfold openN openD
    rw [e, if_neg (by decide), if_neg (by decide)]
    exact open_7 w nd hd h1
  · have h2 : (D.m.length : Int) < D.most ∧ D.last ≠ 1073741823 := by omega
    have h3 := hD.last1
    by_cases h4 : r = false ∧ D.who = 2
    · have e : openE D r = 8 := by unfold openE; rw [if_neg h1, if_pos h4]
      unfold openN openD
      rw [e, if_neg (by decide), if_neg (by decide), h4.1]
      exact open_8 w nd hd h2.1 h2.2 h4.2
    · have e : openE D r = 0 := by unfold openE; rw [if_neg h1, if_neg h4]
      unfold openN openD
      rw [e, if_pos rfl, if_pos rfl]
      cases r with
      | true => exact open_t w nd hd h2.1 hD.last0 (by omega) hD.fresh
      | false => exact open_f w nd hd h2.1 hD.last0 (by omega) (fun e => h4 ⟨rfl, e⟩) hD.fresh
theorem close_s (w : World) (nd : b ≠ g) (hd : Hd (dkB b g D) w) (id : Int) :
    Calls Try.prog 17 [ptr b, .int .i64 id].toArray w (RetU (fun _ : Unit => .int .i64 (closeE D id)) (dkB b g D) (fun _ oa => oa = dkB b g (closeD D id)) w) := by
  unfold closeE closeD
  cases h : sget D.m id with
  | none => rw [if_pos rfl, if_pos rfl]; exact close_n w nd hd h
  | some r =>
    rw [if_neg (by simp), if_neg (by simp)]
    by_cases h0 : sdel D.m id = []
    · rw [if_pos h0]; exact close_0 w nd hd h h0
    · rw [if_neg h0]; exact close_1 w nd hd h h0
theorem logout_s (w : World) (nd : b ≠ g) (hd : Hd (dkB b g D) w) (id : Int) :
    Calls Try.prog 11 [ptr b, .int .i64 id].toArray w (RetU (fun _ : Unit => .int .i64 (logoutE D id)) (dkB b g D) (fun _ oa => oa = dkB b g (logoutD D id)) w) := by
  unfold logoutD logoutE
  cases h : sget D.m id with
  | none => rw [if_pos rfl, if_neg (by decide)]; exact logout_n w nd hd h
  | some r =>
    rw [if_neg (by simp)]
    by_cases h0 : D.who = 0
    · rw [if_pos h0, if_neg (by decide)]; exact logout_o w nd hd h h0
    · rw [if_neg h0, if_pos rfl]; exact logout_c w nd hd h h0
theorem state_s (w : World) (nd : b ≠ g) (hd : Hd (dkB b g D) w) (hD : DkOk D) (id : Int) :
    Calls Try.prog 9 [ptr b, .int .i64 id].toArray w (RetU (fun _ : Unit => .tuple #[.int .i64 (stateN D id), .int .i64 (stateE D id)]) (dkB b g D) (fun _ oa => oa = dkB b g D) w) := by
  unfold stateN stateE
  cases h : sget D.m id with
  | none => rw [if_pos rfl]; exact state_n w nd hd h
  | some r =>
    rw [if_neg (by simp)]
    cases r with
    | true => exact state_t w nd hd h hD.who
    | false => exact state_f w nd hd h hD.who
theorem login_s (w : World) (nd : b ≠ g) (hd : Hd (dkB b g D) w) (hD : DkOk D) (id role : Int) :
    Calls Try.prog 10 [ptr b, .int .i64 id, .int .i64 role].toArray w (RetU (fun _ : Unit => .int .i64 (loginE D id role)) (dkB b g D) (fun _ oa => oa = dkB b g (loginD D id role)) w) := by
  cases h : sget D.m id with
  | none =>
    have e : loginE D id role = 6 := by unfold loginE; rw [if_pos h]
    unfold loginD; rw [e, if_neg (by decide)]; exact login_n w nd hd h
  | some r =>
    have hn : ¬ sget D.m id = none := by rw [h]; simp
    by_cases h1 : role ≠ 1 ∧ role ≠ 2
    · have e : loginE D id role = 1 := by unfold loginE; rw [if_neg hn, if_pos h1]
      unfold loginD; rw [e, if_neg (by decide)]; exact login_1 w nd hd h h1
    · have h2 : role = 1 ∨ role = 2 := by omega
      by_cases h3 : D.who = 0
      · rcases h2 with rfl | rfl
        · have e : loginE D id 1 = 0 := by unfold loginE; rw [if_neg hn, if_neg h1, if_neg (by simpa using h3), if_neg (by simp)]
          unfold loginD; rw [e, if_pos rfl]; exact login_u w nd hd h h3
        · refine (login_o w nd hd h h3 hD).mono fun e w' ⟨x, oa, he, hφ, hup⟩ => ?_
          rcases hφ with ⟨rfl, hx, ho⟩ | ⟨rfl, hx, ho⟩
          · have e : loginE D id 2 = 8 := by unfold loginE; rw [if_neg hn, if_neg h1, if_neg (by simpa using h3), if_pos ⟨rfl, hx⟩]
            exact ⟨(), oa, by rw [e]; exact he, by unfold loginD; rw [e, if_neg (by decide)]; exact ho, hup⟩
          · have e : loginE D id 2 = 0 := by
              unfold loginE
              rw [if_neg hn, if_neg h1, if_neg (by simpa using h3), if_neg]
              rintro ⟨_, x, hm, hf⟩
              rw [hx x hm] at hf; cases hf
            exact ⟨(), oa, by rw [e]; exact he, by unfold loginD; rw [e, if_pos rfl]; exact ho, hup⟩
      · have e : loginE D id role = 8 := by unfold loginE; rw [if_neg hn, if_neg h1, if_pos h3]
        unfold loginD; rw [e, if_neg (by decide)]; exact login_8 w nd hd h h2 h3
end
end Go.Proofs.Ythljhaioblcgfaa
namespace Go.Proofs.Ythljhaioblcgfaa
set_option linter.unusedVariables false
set_option linter.unusedSimpArgs false
theorem dk_new {most : Int} (h : 1 ≤ most ∧ most ≤ 16) : DkOk ⟨most, 0, 0, [], 0⟩ :=
  ⟨h.1, h.2, Int.le_refl _, (by decide : (0 : Int) ≤ 1073741823), by simp; omega, by simp, by simp, by simp, by simp, .inl rfl⟩
theorem DkOk.all {D : Dk} (h : DkOk D) : DkOk (allD D) :=
  ⟨h.lo, h.hi, h.last0, h.last1, by have := h.lo; simp [allD]; omega, by simp [allD], by simp [allD], by simp [allD], by simp [allD], .inl rfl⟩
theorem DkOk.setWho {D : Dk} (h : DkOk D) {r : Int} (hr : r = 0 ∨ r = 1 ∨ r = 2) : DkOk { D with who := r } :=
  ⟨h.lo, h.hi, h.last0, h.last1, h.few, h.lt, h.nd, h.keys, h.below, hr⟩
theorem DkOk.del {D : Dk} (h : DkOk D) (id : Int) : DkOk { D with m := sdel D.m id } :=
  ⟨h.lo, h.hi, h.last0, h.last1, by have := h.few; have := (sdel_sub D.m id).length_le; dsimp only; omega, fun x hx => h.lt x (sdel_mem hx), ((sdel_sub D.m id).map _).nodup h.nd, ((sdel_sub D.m id).map _).nodup h.keys, fun x hx => h.below x (sdel_mem hx), h.who⟩
theorem DkOk.close {D : Dk} (h : DkOk D) (id : Int) : DkOk (closeD D id) := by
  unfold closeD
  split
  · exact h
  · split
    · exact (h.del id).setWho (.inl rfl)
    · exact h.del id
theorem DkOk.login {D : Dk} (h : DkOk D) (id role : Int) : DkOk (loginD D id role) := by
  unfold loginD
  split
  · rename_i e
    refine h.setWho ?_
    by_cases h1 : role ≠ 1 ∧ role ≠ 2
    · unfold loginE at e
      by_cases h2 : sget D.m id = none
      · rw [if_pos h2] at e; cases e
      · rw [if_neg h2, if_pos h1] at e; cases e
    · omega
  · exact h
theorem DkOk.logout {D : Dk} (h : DkOk D) (id : Int) : DkOk (logoutD D id) := by
  unfold logoutD
  split
  · exact h.setWho (.inl rfl)
  · exact h
theorem nd_snoc {α : Type} {l : List α} {x : α} (h : l.Nodup) (hx : x ∉ l) : (l ++ [x]).Nodup := by
  rw [List.nodup_append]
  exact ⟨h, by simp, fun a ha b hb e => by simp at hb; subst hb; subst e; exact hx ha⟩
theorem DkOk.opened {D : Dk} (h : DkOk D) (r : Bool) : DkOk (openD D r) := by
  unfold openD
  split
  · rename_i e
    have h1 : (D.m.length : Int) < D.most ∧ D.last ≠ 1073741823 := by
      by_cases h1 : D.most ≤ (D.m.length : Int) ∨ D.last = 1073741823
      · unfold openE at e; rw [if_pos h1] at e; cases e
      · omega
    have hl := h.last0
    have hl1 := h.last1
    refine ⟨h.lo, h.hi, by dsimp only; omega, by dsimp only; omega, by simp; omega, fun x hx => ?_, ?_, ?_, fun x hx => ?_, h.who⟩
    · rcases List.mem_append.1 hx with hx | hx
      · have := h.lt x hx; dsimp only; omega
      · simp only [List.mem_singleton] at hx; subst hx; exact Nat.lt_succ_self _
    · dsimp only
      rw [List.map_append]
      refine nd_snoc h.nd fun hm => ?_
      obtain ⟨y, hy, he⟩ := List.mem_map.1 hm
      have := h.lt y hy
      dsimp only at he
      omega
    · dsimp only
      rw [List.map_append]
      refine nd_snoc h.keys fun hm => ?_
      obtain ⟨y, hy, he⟩ := List.mem_map.1 hm
      have := (h.below y hy).2
      dsimp only at he
      omega
    · dsimp only
      rcases List.mem_append.1 hx with hx | hx
      · have := h.below x hx; omega
      · simp only [List.mem_singleton] at hx; subst hx; dsimp only; omega
  · exact h
end Go.Proofs.Ythljhaioblcgfaa
namespace Go.Proofs.Ythljhaioblcgfaa
open Go.RowKit
set_option linter.unusedVariables false
set_option linter.unusedSimpArgs false
set_option maxRecDepth 100000
def sitE (D : Dk) (k id n : Int) : Int := if k = 1 then openE D (n != 0) else if k = 2 then closeE D id else if k = 3 then 0 else if k = 4 then loginE D id n else if k = 5 then logoutE D id else 0
def sitD (D : Dk) (k id n : Int) : Dk := if k = 1 then openD D (n != 0) else if k = 2 then closeD D id else if k = 3 then allD D else if k = 4 then loginD D id n else if k = 5 then logoutD D id else D
set_option maxHeartbeats 1000000 in
theorem sit_s {b g : Nat} {D : Dk} (w : World) (nd : b ≠ g) (hd : Hd (dkB b g D) w) (hD : DkOk D) (k id n : Int) :
    Calls Try.prog 8 [ptr b, .agg #[.int .i64 k, .int .i64 id, .int .i64 n]].toArray w (RetU (fun _ : Unit => .int .i64 (sitE D k id n)) (dkB b g D) (fun _ oa => oa = dkB b g (sitD D k id n)) w) := by
  have nk := dk_nd (D := D) nd
  have C1 := fun w' (h' : Hd (dkB b g D) w') => open_s w' nd h' hD (n != 0)
  have C2 := fun w' (h' : Hd (dkB b g D) w') => close_s w' nd h' id
  have C3 := fun w' (h' : Hd (dkB b g D) w') => closeAll_c w' nd h'
  have C4 := fun w' (h' : Hd (dkB b g D) w') => login_s w' nd h' hD id n
  have C5 := fun w' (h' : Hd (dkB b g D) w') => logout_s w' nd h' id
  obtain ⟨r, hr⟩ : ∃ r, (n != 0) = r := ⟨_, rfl⟩
  unfold sitE sitD
  rw [hr] at C1 ⊢
  clear hD
  by_cases h1 : k = 1
  · subst h1
    clear C2 C3 C4 C5
    rw [if_pos rfl, if_pos rfl]
    refine fn_upd (N := _) Try.func8 rfl Try.ntmps8 Try.results8 (by simp) nk hd ?_
    simp only [initS, Nat.reduceAdd, Nat.zero_add]
    repeat' (first | (refine wlS ?_) | (refine wlB ?_) | (refine wlE ?_) | (refine efSvao ?_; intro v oa ho) | ((with_reducible refine sel_call ?_); first | (refine wl_updO rfl rfl rfl rfl rfl (fun w hm hw => by with_reducible exact C1 w hw) ?_; intro x oa hx)) | (refine efBnn ?_; intro n hn) | (refine wl_skip rfl rfl ?_) | ((with_reducible refine wc_seq ?_); intro K hK) | (refine auC ?_) | (refine wc_cond rfl (fun hc => ?_) (fun hc => ?_)) | (refine wc_draw (by kernel_rfl) (by kernel_rfl) (by decide +kernel) ?_; intro w0 hw0 hm0; (try simp only [List.append_eq, List.cons_append, List.nil_append])) | (refine auP ?_) | ((refine auR ?_); clear hK K) | (refine auR ?_) | ((with_reducible refine hK _ _ ?_); clear hK K) | fail)
    subst hx
    repeat' (first | (refine wlS ?_) | (refine wlB ?_) | (refine wlE ?_) | (refine efSvao ?_; intro v oa ho) | (refine efBnn ?_; intro n hn) | (refine wl_skip rfl rfl ?_) | ((with_reducible refine wc_seq ?_); intro K hK) | (refine auC ?_) | (refine wc_cond rfl (fun hc => ?_) (fun hc => ?_)) | (refine wc_draw (by kernel_rfl) (by kernel_rfl) (by decide +kernel) ?_; intro w0 hw0 hm0; (try simp only [List.append_eq, List.cons_append, List.nil_append])) | (refine auP ?_) | ((refine auR ?_); clear hK K) | (refine auR ?_) | ((with_reducible refine hK _ _ ?_); clear hK K) | fail)
    first | refine end_ret (ResP.tmp rfl ResP.nil) ?_ | refine end_normal (ResP.tmp rfl ResP.nil) ?_
    (try dsimp only [tupV])
    exact ⟨(), _, rfl, rfl, by repeat (first | exact SubL.refl _ | refine SubL.skip ?_)⟩
  rw [if_neg h1, if_neg h1]
  have t1 : (k == 1) = false := by simpa using h1
  by_cases h2 : k = 2
  · subst h2
    clear C1 C3 C4 C5
    rw [if_pos rfl, if_pos rfl]
    refine fn_upd (N := _) Try.func8 rfl Try.ntmps8 Try.results8 (by simp) nk hd ?_
    simp only [initS, Nat.reduceAdd, Nat.zero_add]
    repeat' (first | (refine wlS ?_) | (refine wlB ?_) | (refine wlE ?_) | (refine efSvao ?_; intro v oa ho) | ((with_reducible refine sel_call ?_); first | (refine wl_updO rfl rfl rfl rfl rfl (fun w hm hw => by with_reducible exact C2 w hw) ?_; intro x oa hx)) | (refine efBnn ?_; intro n hn) | (refine wl_skip rfl rfl ?_) | ((with_reducible refine wc_seq ?_); intro K hK) | (refine auC ?_) | (refine wc_cond rfl (fun hc => ?_) (fun hc => ?_)) | (refine wc_draw (by kernel_rfl) (by kernel_rfl) (by decide +kernel) ?_; intro w0 hw0 hm0; (try simp only [List.append_eq, List.cons_append, List.nil_append])) | (refine auP ?_) | ((refine auR ?_); clear hK K) | (refine auR ?_) | ((with_reducible refine hK _ _ ?_); clear hK K) | fail)
    subst hx
    repeat' (first | (refine wlS ?_) | (refine wlB ?_) | (refine wlE ?_) | (refine efSvao ?_; intro v oa ho) | (refine efBnn ?_; intro n hn) | (refine wl_skip rfl rfl ?_) | ((with_reducible refine wc_seq ?_); intro K hK) | (refine auC ?_) | (refine wc_cond rfl (fun hc => ?_) (fun hc => ?_)) | (refine wc_draw (by kernel_rfl) (by kernel_rfl) (by decide +kernel) ?_; intro w0 hw0 hm0; (try simp only [List.append_eq, List.cons_append, List.nil_append])) | (refine auP ?_) | ((refine auR ?_); clear hK K) | (refine auR ?_) | ((with_reducible refine hK _ _ ?_); clear hK K) | fail)
    first | refine end_ret (ResP.tmp rfl ResP.nil) ?_ | refine end_normal (ResP.tmp rfl ResP.nil) ?_
    (try dsimp only [tupV])
    exact ⟨(), _, rfl, rfl, by repeat (first | exact SubL.refl _ | refine SubL.skip ?_)⟩
  rw [if_neg h2, if_neg h2]
  have t2 : (k == 2) = false := by simpa using h2
  by_cases h3 : k = 3
  · subst h3
    clear C1 C2 C4 C5
    rw [if_pos rfl, if_pos rfl]
    refine fn_upd (N := _) Try.func8 rfl Try.ntmps8 Try.results8 (by simp) nk hd ?_
    simp only [initS, Nat.reduceAdd, Nat.zero_add]
    repeat' (first | (refine wlS ?_) | (refine wlB ?_) | (refine wlE ?_) | (refine efSvao ?_; intro v oa ho) | ((with_reducible refine sel_call ?_); first | (refine wl_updO rfl rfl rfl rfl rfl (fun w hm hw => by with_reducible exact C3 w hw) ?_; intro x oa hx)) | (refine efBnn ?_; intro n hn) | (refine wl_skip rfl rfl ?_) | ((with_reducible refine wc_seq ?_); intro K hK) | (refine auC ?_) | (refine wc_cond rfl (fun hc => ?_) (fun hc => ?_)) | (refine wc_draw (by kernel_rfl) (by kernel_rfl) (by decide +kernel) ?_; intro w0 hw0 hm0; (try simp only [List.append_eq, List.cons_append, List.nil_append])) | (refine auP ?_) | ((refine auR ?_); clear hK K) | (refine auR ?_) | ((with_reducible refine hK _ _ ?_); clear hK K) | fail)
    subst hx
    repeat' (first | (refine wlS ?_) | (refine wlB ?_) | (refine wlE ?_) | (refine efSvao ?_; intro v oa ho) | (refine efBnn ?_; intro n hn) | (refine wl_skip rfl rfl ?_) | ((with_reducible refine wc_seq ?_); intro K hK) | (refine auC ?_) | (refine wc_cond rfl (fun hc => ?_) (fun hc => ?_)) | (refine wc_draw (by kernel_rfl) (by kernel_rfl) (by decide +kernel) ?_; intro w0 hw0 hm0; (try simp only [List.append_eq, List.cons_append, List.nil_append])) | (refine auP ?_) | ((refine auR ?_); clear hK K) | (refine auR ?_) | ((with_reducible refine hK _ _ ?_); clear hK K) | fail)
    first | refine end_ret (ResP.tmp rfl ResP.nil) ?_ | refine end_normal (ResP.tmp rfl ResP.nil) ?_
    (try dsimp only [tupV])
    exact ⟨(), _, rfl, rfl, by repeat (first | exact SubL.refl _ | refine SubL.skip ?_)⟩
  rw [if_neg h3, if_neg h3]
  have t3 : (k == 3) = false := by simpa using h3
  by_cases h4 : k = 4
  · subst h4
    clear C1 C2 C3 C5
    rw [if_pos rfl, if_pos rfl]
    refine fn_upd (N := _) Try.func8 rfl Try.ntmps8 Try.results8 (by simp) nk hd ?_
    simp only [initS, Nat.reduceAdd, Nat.zero_add]
    repeat' (first | (refine wlS ?_) | (refine wlB ?_) | (refine wlE ?_) | (refine efSvao ?_; intro v oa ho) | ((with_reducible refine sel_call ?_); first | (refine wl_updO rfl rfl rfl rfl rfl (fun w hm hw => by with_reducible exact C4 w hw) ?_; intro x oa hx)) | (refine efBnn ?_; intro n hn) | (refine wl_skip rfl rfl ?_) | ((with_reducible refine wc_seq ?_); intro K hK) | (refine auC ?_) | (refine wc_cond rfl (fun hc => ?_) (fun hc => ?_)) | (refine wc_draw (by kernel_rfl) (by kernel_rfl) (by decide +kernel) ?_; intro w0 hw0 hm0; (try simp only [List.append_eq, List.cons_append, List.nil_append])) | (refine auP ?_) | ((refine auR ?_); clear hK K) | (refine auR ?_) | ((with_reducible refine hK _ _ ?_); clear hK K) | fail)
    subst hx
    repeat' (first | (refine wlS ?_) | (refine wlB ?_) | (refine wlE ?_) | (refine efSvao ?_; intro v oa ho) | (refine efBnn ?_; intro n hn) | (refine wl_skip rfl rfl ?_) | ((with_reducible refine wc_seq ?_); intro K hK) | (refine auC ?_) | (refine wc_cond rfl (fun hc => ?_) (fun hc => ?_)) | (refine wc_draw (by kernel_rfl) (by kernel_rfl) (by decide +kernel) ?_; intro w0 hw0 hm0; (try simp only [List.append_eq, List.cons_append, List.nil_append])) | (refine auP ?_) | ((refine auR ?_); clear hK K) | (refine auR ?_) | ((with_reducible refine hK _ _ ?_); clear hK K) | fail)
    first | refine end_ret (ResP.tmp rfl ResP.nil) ?_ | refine end_normal (ResP.tmp rfl ResP.nil) ?_
    (try dsimp only [tupV])
    exact ⟨(), _, rfl, rfl, by repeat (first | exact SubL.refl _ | refine SubL.skip ?_)⟩
  rw [if_neg h4, if_neg h4]
  have t4 : (k == 4) = false := by simpa using h4
  by_cases h5 : k = 5
  · subst h5
    clear C1 C2 C3 C4
    rw [if_pos rfl, if_pos rfl]
    refine fn_upd (N := _) Try.func8 rfl Try.ntmps8 Try.results8 (by simp) nk hd ?_
    simp only [initS, Nat.reduceAdd, Nat.zero_add]
    repeat' (first | (refine wlS ?_) | (refine wlB ?_) | (refine wlE ?_) | (refine efSvao ?_; intro v oa ho) | ((with_reducible refine sel_call ?_); first | (refine wl_updO rfl rfl rfl rfl rfl (fun w hm hw => by with_reducible exact C5 w hw) ?_; intro x oa hx)) | (refine efBnn ?_; intro n hn) | (refine wl_skip rfl rfl ?_) | ((with_reducible refine wc_seq ?_); intro K hK) | (refine auC ?_) | (refine wc_cond rfl (fun hc => ?_) (fun hc => ?_)) | (refine wc_draw (by kernel_rfl) (by kernel_rfl) (by decide +kernel) ?_; intro w0 hw0 hm0; (try simp only [List.append_eq, List.cons_append, List.nil_append])) | (refine auP ?_) | ((refine auR ?_); clear hK K) | (refine auR ?_) | ((with_reducible refine hK _ _ ?_); clear hK K) | fail)
    subst hx
    repeat' (first | (refine wlS ?_) | (refine wlB ?_) | (refine wlE ?_) | (refine efSvao ?_; intro v oa ho) | (refine efBnn ?_; intro n hn) | (refine wl_skip rfl rfl ?_) | ((with_reducible refine wc_seq ?_); intro K hK) | (refine auC ?_) | (refine wc_cond rfl (fun hc => ?_) (fun hc => ?_)) | (refine wc_draw (by kernel_rfl) (by kernel_rfl) (by decide +kernel) ?_; intro w0 hw0 hm0; (try simp only [List.append_eq, List.cons_append, List.nil_append])) | (refine auP ?_) | ((refine auR ?_); clear hK K) | (refine auR ?_) | ((with_reducible refine hK _ _ ?_); clear hK K) | fail)
    first | refine end_ret (ResP.tmp rfl ResP.nil) ?_ | refine end_normal (ResP.tmp rfl ResP.nil) ?_
    (try dsimp only [tupV])
    exact ⟨(), _, rfl, rfl, by repeat (first | exact SubL.refl _ | refine SubL.skip ?_)⟩
  rw [if_neg h5, if_neg h5]
  have t5 : (k == 5) = false := by simpa using h5
  clear C1 C2 C3 C4 C5
  refine fn_upd (N := _) Try.func8 rfl Try.ntmps8 Try.results8 (by simp) nk hd ?_
  simp only [initS, Nat.reduceAdd, Nat.zero_add]
  repeat' (first | (refine wlS ?_) | (refine wlB ?_) | (refine wlE ?_) | (refine efSvao ?_; intro v oa ho) | (refine efBnn ?_; intro n hn) | (refine wl_skip rfl rfl ?_) | ((with_reducible refine wc_seq ?_); intro K hK) | (refine auC ?_) | (refine wc_cond rfl (fun hc => ?_) (fun hc => ?_)) | (refine wc_draw (by kernel_rfl) (by kernel_rfl) (by decide +kernel) ?_; intro w0 hw0 hm0; (try simp only [List.append_eq, List.cons_append, List.nil_append])) | (refine auP ?_) | ((refine auR ?_); clear hK K) | (refine auR ?_) | ((with_reducible refine hK _ _ ?_); clear hK K) | fail)
  first | refine end_ret (ResP.tmp rfl ResP.nil) ?_ | refine end_normal (ResP.tmp rfl ResP.nil) ?_
  (try dsimp only [tupV])
  exact ⟨(), _, rfl, rfl, by repeat (first | exact SubL.refl _ | refine SubL.skip ?_)⟩
theorem DkOk.sit {D : Dk} (h : DkOk D) (k id n : Int) : DkOk (sitD D k id n) := by
  unfold sitD
  split
  · exact h.opened _
  · split
    · exact h.close _
    · split
      · exact h.all
      · split
        · exact h.login _ _
        · split
          · exact h.logout _
          · exact h
end Go.Proofs.Ythljhaioblcgfaa
