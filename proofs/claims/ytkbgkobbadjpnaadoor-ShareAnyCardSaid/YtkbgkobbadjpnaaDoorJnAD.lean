/- Structs as rows of segments. The walk of limb.Cmp. What Cmp answers. The package share, walked: num, check, At. Equality told by a fact about the values; a slice against nil. Bytes: copy, make, append of noughts, stores into a slice of the walk's own. Shares in another order; slices.Clone of shares. New slices of records of the walk's own, and stores into them. -/
import Derived.Test.YtkbgkobbadjpnaaDoorOwnB
import Derived.Test.YtkbgkobbadjpnaaDoorJnAA
import Derived.Test.YtkbgkobbadjpnaaDoorJnAC
import Derived.Test.YtkbgkobbadjpnaaDoorTyS
import Derived.Test.YtkbgkobbadjpnaaDoorOwnOps
import Derived.Laws.CopyRow
import Derived.Laws.IdiomCopy
import Derived.Laws.MakeOwn
import Derived.Lib.AppendZerosOnto
namespace Go.Proofs.YtkbgkobbadjpnaaDoor
open Go.RowKit
set_option linter.unusedVariables false
set_option linter.unusedSimpArgs false
/-- Segments: how many cells, and which. -/
abbrev Sg := List (Nat × Array Value)
def rwL (g : Sg) : List Value := (g.map fun s => s.2.toList).flatten
def rwA (g : Sg) : Array Value := (rwL g).toArray
def sumG : Sg → Nat
  | [] => 0
  | s :: r => s.1 + sumG r
/-- A segment of m cells. -/
class SegL (A : Array Value) (m : Nat) : Prop where
  size : A.size = m
  one : A.all (·.oneCell') = true
class SgOk (g : Sg) : Prop where
  out : ∀ s ∈ g, s.2.size = s.1 ∧ s.2.all (·.oneCell') = true
instance SgOk.nil : SgOk [] := ⟨fun _ h => by cases h⟩
instance SgOk.cons {A : Array Value} {m : Nat} {r : Sg} [h : SegL A m] [h' : SgOk r] : SgOk ((m, A) :: r) := ⟨fun s hs => by
  rcases List.mem_cons.1 hs with rfl | hs
  · exact ⟨h.size, h.one⟩
  · exact h'.out s hs⟩
theorem SgOk.head {s : Nat × Array Value} {r : Sg} (h : SgOk (s :: r)) : s.2.size = s.1 ∧ s.2.all (·.oneCell') = true := h.out s (by simp)
theorem SgOk.tail {s : Nat × Array Value} {r : Sg} (h : SgOk (s :: r)) : SgOk r := ⟨fun q hq => h.out q (by simp [hq])⟩
theorem rwL_cons (s : Nat × Array Value) (r : Sg) : rwL (s :: r) = s.2.toList ++ rwL r := rfl
theorem rwL_len : ∀ {g : Sg}, SgOk g → (rwL g).length = sumG g
  | [], _ => rfl
  | s :: r, h => by rw [rwL_cons, List.length_append, Array.length_toList, h.head.1, rwL_len h.tail]; rfl
theorem rw_size {g : Sg} (h : SgOk g) : (rwA g).size = sumG g := by rw [rwA, List.size_toArray, rwL_len h]
theorem rwL_one : ∀ {g : Sg}, SgOk g → (rwL g).all (·.oneCell') = true
  | [], _ => rfl
  | s :: r, h => by
    rw [rwL_cons, List.all_append, rwL_one h.tail, Bool.and_true]
    have := h.head.2
    rwa [← Array.all_toList] at this
theorem rw_one {g : Sg} (h : SgOk g) : (rwA g).all (·.oneCell') = true := by rw [rwA, List.all_toArray]; exact rwL_one h
def atL : Sg → Nat → Nat → Option (Array Value)
  | [], _, _ => none
  | s :: r, off, k => bif Nat.beq off 0 && Nat.beq k s.1 then some s.2 else bif Nat.ble s.1 off then atL r (off - s.1) k else none
def putG : Sg → Nat → Nat → Array Value → Option Sg
  | [], _, _, _ => none
  | s :: r, off, k, B => bif Nat.beq off 0 && Nat.beq k s.1 then some ((s.1, B) :: r) else bif Nat.ble s.1 off then (match putG r (off - s.1) k B with
    | some r' => some (s :: r')
    | none => none) else none
theorem atL_spec : ∀ {g : Sg} {off k : Nat} {B : Array Value}, SgOk g → atL g off k = some B → ((rwL g).drop off).take k = B.toList ∧ B.size = k ∧ off + k ≤ (rwL g).length
  | [], _, _, _, _, h => by cases h
  | s :: r, off, k, B, hok, h => by
    unfold atL at h
    have hs := hok.head.1
    by_cases h1 : (Nat.beq off 0 && Nat.beq k s.1) = true
    · rw [h1] at h
      simp only [cond_true, Option.some.injEq] at h
      subst h
      simp only [Bool.and_eq_true, Nat.beq_eq] at h1
      obtain ⟨rfl, rfl⟩ := h1
      refine ⟨?_, hs, by rw [rwL_cons, List.length_append, Array.length_toList, hs]; omega⟩
      rw [List.drop_zero, rwL_cons, List.take_append_of_le_length (by rw [Array.length_toList, hs]; exact Nat.le_refl _), List.take_of_length_le (by rw [Array.length_toList, hs]; exact Nat.le_refl _)]
    · rw [eq_false_of_ne_true h1, cond_false] at h
      by_cases h2 : Nat.ble s.1 off = true
      · rw [h2, cond_true] at h
        have hle := Nat.le_of_ble_eq_true h2
        obtain ⟨e1, e2, e3⟩ := atL_spec hok.tail h
        refine ⟨?_, e2, by rw [rwL_cons, List.length_append, Array.length_toList, hs]; omega⟩
        rw [rwL_cons, List.drop_append, Array.length_toList, hs, List.drop_of_length_le (by rw [Array.length_toList, hs]; exact hle), List.nil_append]
        exact e1
      · rw [eq_false_of_ne_true h2, cond_false] at h; cases h
theorem putG_spec : ∀ {g g' : Sg} {off k : Nat} {B : Array Value}, SgOk g → B.size = k → B.all (·.oneCell') = true → putG g off k B = some g' → putR (rwL g) off B.toList = rwL g' ∧ SgOk g' ∧ sumG g' = sumG g ∧ off + k ≤ sumG g
  | [], _, _, _, _, _, _, _, h => by cases h
  | s :: r, g', off, k, B, hok, hk, h1, h => by
    unfold putG at h
    have hs := hok.head.1
    by_cases c1 : (Nat.beq off 0 && Nat.beq k s.1) = true
    · rw [c1] at h
      simp only [cond_true, Option.some.injEq] at h
      subst h
      simp only [Bool.and_eq_true, Nat.beq_eq] at c1
      obtain ⟨rfl, rfl⟩ := c1
      refine ⟨?_, ⟨fun q hq => ?_⟩, rfl, by simp only [sumG]; omega⟩
      · unfold putR
        rw [rwL_cons, rwL_cons, List.take_zero, List.nil_append, Nat.zero_add, Array.length_toList, hk, List.drop_append, Array.length_toList, hs, List.drop_of_length_le (by rw [Array.length_toList, hs]; exact Nat.le_refl _), Nat.sub_self, List.drop_zero, List.nil_append]
      · rcases List.mem_cons.1 hq with rfl | hq
        · exact ⟨hk, h1⟩
        · exact hok.tail.out q hq
    · rw [eq_false_of_ne_true c1, cond_false] at h
      by_cases c2 : Nat.ble s.1 off = true
      · rw [c2, cond_true] at h
        have hle := Nat.le_of_ble_eq_true c2
        cases hp : putG r (off - s.1) k B with
        | none => rw [hp] at h; cases h
        | some r' =>
          rw [hp] at h
          simp only [Option.some.injEq] at h
          subst h
          obtain ⟨e1, e2, e3, e4⟩ := putG_spec hok.tail hk h1 hp
          refine ⟨?_, ⟨fun q hq => ?_⟩, by simp only [sumG, e3], by simp only [sumG]; omega⟩
          · rw [rwL_cons, rwL_cons, ← e1]
            unfold putR
            have e : s.2.toList.length = s.1 := by rw [Array.length_toList, hs]
            rw [List.take_append, e, List.take_of_length_le (by rw [e]; exact hle), List.drop_append, e, List.drop_of_length_le (by rw [e]; omega), List.nil_append, show off + B.toList.length - s.1 = off - s.1 + B.toList.length by omega, List.append_assoc, List.append_assoc, List.append_assoc]
          · rcases List.mem_cons.1 hq with rfl | hq
            · exact hok.head
            · exact e2.out q hq
      · rw [eq_false_of_ne_true c2, cond_false] at h; cases h
/-- A type's nought, in segments. -/
class ZG (P : Program) (t : Nat) (g : outParam Sg) : Prop where
  out : (P.info? t).bind (·.zero) = some (.agg (rwA g))
  ok : SgOk g
def bys (l : List Nat) : Array Value := (bl l).toArray
def w32 (l : List Nat) : Array Value := (l.map fun k : Nat => Value.int .u32 (k : Int)).toArray
theorem seg_bys {n : Nat} {l : List Nat} (h : l.length = n) : SegL (bys l) n := ⟨by simp [bys, bl_len, h], by simp [bys, bl, Value.oneCell']⟩
instance {l : List Nat} {i k : Nat} : PutC (bys l) i (.int .u8 (k : Int)) (bys (l.set i k)) := ⟨by simp [bys, putC, bl]⟩
theorem bys_get {l : List Nat} {i : Nat} (h : i < l.length) : (bys l)[i]? = some (.int .u8 ((l.getD i 0 : Nat) : Int)) := by simp [bys, bl, h, List.getD]
/-- Where a block stands. -/
class BlkAt (l : Blks) (n : Nat) (x : outParam (Array Value × TypeId)) : Prop where
  out : (n, x) ∈ l
instance {n : Nat} {x : Array Value × TypeId} {l : Blks} : BlkAt ((n, x) :: l) n x := ⟨List.mem_cons_self⟩
instance (priority := 900) {n : Nat} {x : Array Value × TypeId} {p : Nat × (Array Value × TypeId)} {l : Blks} [h : BlkAt l n x] : BlkAt (p :: l) n x := ⟨List.mem_cons_of_mem _ h.out⟩
instance (priority := 900) {n : Nat} {x : Array Value × TypeId} {ob l : Blks} [h : BlkAt l n x] : BlkAt (ob ++ l) n x := ⟨List.mem_append_right _ h.out⟩
class BLc (n : Nat) (p : List Nat) : Prop where
  out : BL n p
  small : n ≤ 1099511627776
instance {X : Cx} {l : Blks} {n k : Nat} {p : List Nat} {e : Nat} [h : BlkAt l n (bys p, e)] [h' : BLc k p] : VwB X l (.slice (some ⟨n, 0, none⟩) k k) k p := ⟨fun w hm => by
  have hg := hm.cls.now n (bys p) e (mu_mem_of h.out hm.nd)
  refine ⟨⟨⟨_, _, rfl, Nat.le_refl _, by have := h'.small; simp only [maxLen]; omega, fun _ => ⟨n, 0, rfl⟩⟩, fun j u hj => ⟨n, 0, k, rfl, ?_⟩⟩, h'.out⟩
  rw [cell_of_row w n (0 + j) (bys p) e _ hg, Nat.zero_add]
  simpa [bys] using hj⟩
theorem seg_w32 {n : Nat} {l : List Nat} (h : l.length = n) : SegL (w32 l) n := ⟨by simp [w32, h], by simp [w32, Value.oneCell']⟩
instance {k : IntKind} {z : Int} : SegL #[.int k z] 1 := ⟨rfl, by simp [Value.oneCell']⟩
instance {b : Bool} : SegL #[.bool b] 1 := ⟨rfl, by simp [Value.oneCell']⟩
theorem seg_rw {g : Sg} [h : SgOk g] {k : Nat} (hk : sumG g = k) : SegL (rwA g) k := ⟨by rw [rw_size h, hk], rw_one h⟩
section
variable {X : Cx} {s : Slots} {l : Blks} {o : Oper} {v : Value} {Q : Post} {ops : Array Oper} {r : List Oper}
theorem ld_sg {t b off k e : Nat} {g : Sg} {B : Array Value} [hu : KD X.P t true] [hs : SZ X.P t k] [hok : SgOk g] (hh : Has X l b (rwA g, e) := by first | (with_reducible assumption) | (refine Has.inn ?_; repeat (first | exact Inn.here | refine Inn.there ?_))) (ha : atL g off k = some B := by rfl) : Ld X l t b off (.agg B) := by
  obtain ⟨h1, h2, h3⟩ := atL_spec hok ha
  have := ld_row (X := X) (l := l) (t := t) (b := b) (off := off) (k := k) (c := rwA g) (cs := B.toList) hh (by rw [rwA]; exact h1) (by rw [Array.length_toList, h2])
  rwa [Array.toArray_toList] at this
theorem ld_sg1 {t b off e : Nat} {g : Sg} [hu : KD X.P t false] [hok : SgOk g] (hh : Has X l b (rwA g, e) := by first | (with_reducible assumption) | (refine Has.inn ?_; repeat (first | exact Inn.here | refine Inn.there ?_))) (ha : atL g off 1 = some #[v] := by rfl) : Ld X l t b off v := by
  obtain ⟨h1, h2, h3⟩ := atL_spec hok ha
  refine ld_cell (c := rwA g) hh ?_
  have := congrArg (·[0]?) h1
  simpa [rwA] using this
theorem ld_wholeG {t b k e : Nat} {g : Sg} [hu : KD X.P t true] [hs : SZ X.P t k] [hok : SgOk g] (hh : Has X l b (rwA g, e) := by first | (with_reducible assumption) | (refine Has.inn ?_; repeat (first | exact Inn.here | refine Inn.there ?_))) (hk : sumG g = k := by rfl) : Ld X l t b 0 (.agg (rwA g)) :=
  ld_whole hh (by rw [rw_size hok, hk])
theorem sv_sg {t k off b e : Nat} {x y : Operand} {g g' : Sg} {B : Array Value} {l' : Blks} (ho : o.op = .store t x y) (hx : val s x = some (.pointer (some ⟨b, off, none⟩))) (hy : val s y = some (.agg B))
    [hs : SZ X.P t k] [hok : SgOk g] [hB : SegL B k] (ha : At l b (rwA g, e) (rwA g', e) l' := by repeat (first | exact At.here | apply At.there)) (hp : putG g off k B = some g' := by rfl)  : Sv X s l o l' := by
  obtain ⟨h1, h2, h3, h4⟩ := putG_spec hok hB.size hB.one hp
  have hB' : Value.agg B = .agg B.toList.toArray := by rw [Array.toArray_toList]
  exact sv_row (cs := B.toList) (c := rwA g) (c' := rwL g') ho hx (by rw [hy, hB']) (hk := by rw [Array.length_toList, hB.size]) (h1 := by have := hB.one; rwa [← Array.all_toList] at this) (hc := by rw [rwA, ← h1]) ha (hlt := by rw [Array.length_toList, hB.size, rw_size hok]; exact h4)
theorem sv_sg1 {t off b e : Nat} {x y : Operand} {g g' : Sg} {l' : Blks} (ho : o.op = .store t x y) (hx : val s x = some (.pointer (some ⟨b, off, none⟩))) (hy : val s y = some v)
    [hs : SZ X.P t 1] [hok : SgOk g] [hB : SegL #[v] 1] (ha : At l b (rwA g, e) (rwA g', e) l' := by repeat (first | exact At.here | apply At.there)) (hp : putG g off 1 #[v] = some g' := by rfl)  : Sv X s l o l' := by
  obtain ⟨h1, h2, h3, h4⟩ := putG_spec hok hB.size hB.one hp
  have hv : v.oneCell' = true := by have := hB.one; simpa using this
  have hlt : off < (rwA g).size := by rw [rw_size hok]; omega
  refine sv_cell (c := rwA g) (c' := rwA g') ho hx hy hv ha (hc := ?_) (hlt := hlt)
  unfold putC rwA
  rw [← h1]
  unfold putR
  have hlt' : off < (rwL g).length := by rw [rwL_len hok]; omega
  simp only [List.setIfInBounds_toArray, List.length_cons, List.length_nil]
  congr 1
  rw [List.set_eq_take_append_cons_drop, if_pos hlt']
  simp
theorem sv_wholeG {t k b e : Nat} {x y : Operand} {g g' : Sg} {l' : Blks} (ho : o.op = .store t x y) (hx : val s x = some (.pointer (some ⟨b, 0, none⟩))) (hy : val s y = some (.agg (rwA g')))
    [hs : SZ X.P t k] [hok : SgOk g] [hok' : SgOk g'] (ha : At l b (rwA g, e) (rwA g', e) l' := by repeat (first | exact At.here | apply At.there)) (hk : sumG g' = k := by rfl) (hk' : sumG g = k := by rfl)  : Sv X s l o l' :=
  sv_whole ho hx hy (hk := by rw [rw_size hok', hk]) (h1 := rw_one hok') ha (hlt := by rw [rw_size hok, rw_size hok', hk, hk'])
theorem mk_allocG {t : Nat} {g : Sg} (ho : o.op = .alloc t) [hz : ZG X.P t g] : Mk X s o (rwA g) t ptr := by
  haveI : ZR X.P t (.agg (rwA g)) := ⟨hz.out⟩
  exact mk_alloc ho rfl
theorem rd_fieldG {t f fo ty k : Nat} {x : Operand} {g : Sg} {B : Array Value} (ho : o.op = .field t x f) (hx : val s x = some (.agg (rwA g))) [hf : FD X.P t f fo ty k] [hu : KD X.P ty true] [hs : SZ X.P ty k] [hok : SgOk g] (ha : atL g fo k = some B := by rfl) : RdV X s l o (.agg B) := by
  obtain ⟨h1, h2, h3⟩ := atL_spec hok ha
  refine rd_field ho hx fun w => ?_
  have := part_row (P := X.P) (t := ty) (off := fo) (cs := rwA g) (cs' := B.toList) (by rw [rwA]; exact h1) w
  rwa [Array.toArray_toList] at this
theorem rd_fieldG1 {t f fo ty k : Nat} {x : Operand} {g : Sg} (ho : o.op = .field t x f) (hx : val s x = some (.agg (rwA g))) [hf : FD X.P t f fo ty k] [hu : KD X.P ty false] [hok : SgOk g] (ha : atL g fo 1 = some #[v] := by rfl) : RdV X s l o v := by
  obtain ⟨h1, h2, h3⟩ := atL_spec hok ha
  refine rd_field ho hx fun w => part_cell ?_ w
  have := congrArg (·[0]?) h1
  simpa [rwA] using this
/-- Fields put into a nought. -/
def putsG (pl : List (Nat × Nat)) : Sg → List (Nat × Value) → Option Sg
  | g, [] => some g
  | g, (i, v) :: r => match pl[i]? with
    | none => none
    | some q => bif v.cells.size == q.2 then (match putG g q.1 q.2 v.cells with
      | some g' => putsG pl g' r
      | none => none) else none
theorem putsG_spec {pl : List (Nat × Nat)} : ∀ {vs : List (Nat × Value)} {g g' : Sg}, SgOk g → (∀ p ∈ vs, p.2.cells.all (·.oneCell') = true) → putsG pl g vs = some g' → fillC (fun i => pl[i]?) (rwL g) vs = some (rwL g') ∧ SgOk g'
  | [], g, g', hok, _, h => by cases h; exact ⟨rfl, hok⟩
  | (i, v) :: r, g, g', hok, h1, h => by
    unfold putsG at h
    unfold fillC
    cases hp : pl[i]? with
    | none => simp [hp] at h
    | some q =>
      simp only [hp] at h ⊢
      by_cases c : (v.cells.size == q.2) = true
      · rw [c, cond_true] at h
        cases hg : putG g q.1 q.2 v.cells with
        | none => rw [hg] at h; cases h
        | some g1 =>
          rw [hg] at h
          simp only at h
          obtain ⟨e1, e2, e3, e4⟩ := putG_spec hok (by simpa using c) (h1 (i, v) (by simp)) hg
          have hb : Nat.ble (q.1 + q.2) (rwL g).length = true := Nat.ble_eq_true_of_le (by rw [rwL_len hok]; exact e4)
          rw [c, hb, Bool.and_self, cond_true, e1]
          exact putsG_spec e2 (fun p hp => h1 p (by simp [hp])) h
      · rw [eq_false_of_ne_true c, cond_false] at h; cases h
theorem rd_buildG {t : Nat} {ps : Array (Nat × Operand)} {vs : List (Nat × Value)} {pl : List (Nat × Nat)} {g0 g : Sg} (ho : o.op = .build t ps) (hx : valsP s ps.toList = some vs) [ht : SP X.P t pl] [hz : ZG X.P t g0]
    (hc : putsG pl g0 vs = some g) (h1 : ∀ p ∈ vs, p.2.cells.all (·.oneCell') = true) : RdV X s l o (.agg (rwA g)) := by
  haveI : ZR X.P t (.agg (rwA g0)) := ⟨hz.out⟩
  exact rd_buildS ho hx (by rw [rwA]; exact (putsG_spec hz.ok h1 hc).1)
/-- One cell of a segment. -/
theorem ld_sgC {t b off e p m j : Nat} {g : Sg} {A : Array Value} [hu : KD X.P t false] [hok : SgOk g] (hh : Has X l b (rwA g, e) := by first | (with_reducible assumption) | (refine Has.inn ?_; repeat (first | exact Inn.here | refine Inn.there ?_))) (ha : atL g p m = some A := by rfl) (ho : p + j = off := by first | (with_reducible assumption) | rfl | omega) (hv : A[j]? = some v := by first | (with_reducible assumption)) : Ld X l t b off v := by
  obtain ⟨h1, h2, h3⟩ := atL_spec hok ha
  subst ho
  have hj : j < m := by rw [← h2]; exact (Array.getElem?_eq_some_iff.1 hv).1
  refine ld_cell (c := rwA g) hh ?_
  have := congrArg (·[j]?) h1
  simp only [List.getElem?_take_of_lt hj, List.getElem?_drop] at this
  rw [rwA, List.getElem?_toArray, this]
  simpa using hv
theorem sv_sgC {t off b e p m j : Nat} {x y : Operand} {g g' : Sg} {A A' : Array Value} {l' : Blks} (ho : o.op = .store t x y) (hx : val s x = some (.pointer (some ⟨b, off, none⟩))) (hy : val s y = some v)
    [hs : SZ X.P t 1] [hok : SgOk g] (h1 : v.oneCell' = true) (hat : At l b (rwA g, e) (rwA g', e) l' := by repeat (first | exact At.here | apply At.there)) (ha : atL g p m = some A := by rfl) (hof : p + j = off := by first | (with_reducible assumption) | rfl | omega) (hc : putC A j v = A' := by first | (with_reducible assumption) | exact PutC.out) (hj : j < m := by first | (with_reducible assumption) | omega)
    (hp : putG g p m A' = some g' := by rfl)  : Sv X s l o l' := by
  obtain ⟨e1, e2, e3⟩ := atL_spec hok ha
  subst hof; subst hc
  have hA : A.all (·.oneCell') = true := by
    rw [← Array.all_toList, ← e1, List.all_eq_true]
    intro q hq
    exact (List.all_eq_true.1 (rwL_one hok)) q (List.mem_of_mem_drop (List.mem_of_mem_take hq))
  have hB : SegL (putC A j v) m := ⟨by simp [putC, e2], by
    rw [← Array.all_toList, List.all_eq_true]
    intro q hq
    simp only [putC, Array.toList_setIfInBounds] at hq
    rcases List.mem_or_eq_of_mem_set hq with h | h
    · exact (List.all_eq_true.1 (by rw [Array.all_toList]; exact hA)) q h
    · rw [h]; exact h1⟩
  obtain ⟨f1, f2, f3, f4⟩ := putG_spec hok hB.size hB.one hp
  have hlen : A.toList.length = m := by rw [Array.length_toList, e2]
  refine sv_cell (c := rwA g) (c' := rwA g') ho hx hy h1 hat (hc := ?_) (hlt := by rw [rw_size hok]; omega)
  unfold putC rwA
  rw [← f1]
  unfold putR
  simp only [List.setIfInBounds_toArray]
  congr 1
  have hpl : p + j < (rwL g).length := by omega
  apply List.ext_getElem?
  intro i
  have hAi : ∀ k, k < m → A.toList[k]? = (rwL g)[p + k]? := fun k hk => by rw [← e1, List.getElem?_take_of_lt hk, List.getElem?_drop]
  have hlA : (A.toList.set j v).length = m := by rw [List.length_set, hlen]
  have htk : ((rwL g).take p).length = p := by rw [List.length_take]; omega
  simp only [putC, Array.toList_setIfInBounds]
  rw [hlA, List.getElem?_set]
  by_cases c1 : i < p
  · rw [if_neg (by omega), List.append_assoc, List.getElem?_append_left (by omega), List.getElem?_take_of_lt c1]
  · by_cases c2 : i < p + m
    · rw [List.append_assoc, List.getElem?_append_right (by omega), htk, List.getElem?_append_left (by omega), List.getElem?_set, hlen]
      by_cases c3 : j = i - p
      · rw [if_pos (by omega), if_pos c3, if_pos hpl, if_pos hj]
      · rw [if_neg (by omega), if_neg c3, hAi _ (by omega)]; congr 1; omega
    · rw [if_neg (by omega), List.append_assoc, List.getElem?_append_right (by omega), htk, List.getElem?_append_right (by omega), hlA, List.getElem?_drop]; congr 1; omega
end
end Go.Proofs.YtkbgkobbadjpnaaDoor
namespace Go.Proofs.YtkbgkobbadjpnaaDoor
open Go.RowKit
set_option linter.unusedVariables false
set_option maxHeartbeats 1000000 in
theorem cmp_3_lt (a0 a1 a2 a3 b0 b1 b2 b3 : Int) (h : a3 < b3) (w : World) :
    Calls Tryd.prog 18 #[.agg #[.int .u64 a0, .int .u64 a1, .int .u64 a2, .int .u64 a3], .agg #[.int .u64 b0, .int .u64 b1, .int .u64 b2, .int .u64 b3]] w (Ret (.int .i64 (-1)) w) := by
  have dh : decide (a3 < b3) = true := decide_eq_true h
  go_enter Tryd.func18, Tryd.ntmps18
  go_wp2
  refine wp_loop_rounds 5 ?_
  rw [rounds_succ]
  go_wp2
  go_region
  go_wp2
  go_returns
  refine ⟨rfl, ?_⟩
  repeat' (first | (with_reducible exact Below.refl _ _) | (with_reducible assumption) | (with_reducible refine up_alloc ?_ _) | (with_reducible refine up ?_ _) | (with_reducible refine up_drew ?_) | (with_reducible refine up_row ?_ ?_ _) | (with_reducible refine up_set ?_ ?_ _) | ((try dsimp only); first | omega | exact le_size | exact le_size1 | exact le_size2 | exact le_size3))
set_option maxHeartbeats 1000000 in
theorem cmp_3_gt (a0 a1 a2 a3 b0 b1 b2 b3 : Int) (h : b3 < a3) (w : World) :
    Calls Tryd.prog 18 #[.agg #[.int .u64 a0, .int .u64 a1, .int .u64 a2, .int .u64 a3], .agg #[.int .u64 b0, .int .u64 b1, .int .u64 b2, .int .u64 b3]] w (Ret (.int .i64 1) w) := by
  have nl : ¬ a3 < b3 := by omega
  have dn : decide (a3 < b3) = false := decide_eq_false nl
  have dh : decide (b3 < a3) = true := decide_eq_true h
  go_enter Tryd.func18, Tryd.ntmps18
  go_wp2
  refine wp_loop_rounds 5 ?_
  rw [rounds_succ]
  go_wp2
  go_region
  go_wp2
  go_region
  go_wp2
  go_returns
  refine ⟨rfl, ?_⟩
  repeat' (first | (with_reducible exact Below.refl _ _) | (with_reducible assumption) | (with_reducible refine up_alloc ?_ _) | (with_reducible refine up ?_ _) | (with_reducible refine up_drew ?_) | (with_reducible refine up_row ?_ ?_ _) | (with_reducible refine up_set ?_ ?_ _) | ((try dsimp only); first | omega | exact le_size | exact le_size1 | exact le_size2 | exact le_size3))
set_option maxHeartbeats 1000000 in
theorem cmp_2_lt (a0 a1 a2 a3 b0 b1 b2 b3 : Int) (l3 : ¬ a3 < b3) (g3 : ¬ b3 < a3) (h : a2 < b2) (w : World) :
    Calls Tryd.prog 18 #[.agg #[.int .u64 a0, .int .u64 a1, .int .u64 a2, .int .u64 a3], .agg #[.int .u64 b0, .int .u64 b1, .int .u64 b2, .int .u64 b3]] w (Ret (.int .i64 (-1)) w) := by
  have dl3 : decide (a3 < b3) = false := decide_eq_false l3
  have dg3 : decide (b3 < a3) = false := decide_eq_false g3
  have dh : decide (a2 < b2) = true := decide_eq_true h
  go_enter Tryd.func18, Tryd.ntmps18
  go_wp2
  refine wp_loop_rounds 5 ?_
  rw [rounds_succ]
  go_wp2
  go_region
  go_wp2
  go_region
  go_wp2
  rw [rounds_succ]
  go_wp2
  go_region
  go_wp2
  go_returns
  refine ⟨rfl, ?_⟩
  repeat' (first | (with_reducible exact Below.refl _ _) | (with_reducible assumption) | (with_reducible refine up_alloc ?_ _) | (with_reducible refine up ?_ _) | (with_reducible refine up_drew ?_) | (with_reducible refine up_row ?_ ?_ _) | (with_reducible refine up_set ?_ ?_ _) | ((try dsimp only); first | omega | exact le_size | exact le_size1 | exact le_size2 | exact le_size3))
set_option maxHeartbeats 1000000 in
theorem cmp_2_gt (a0 a1 a2 a3 b0 b1 b2 b3 : Int) (l3 : ¬ a3 < b3) (g3 : ¬ b3 < a3) (h : b2 < a2) (w : World) :
    Calls Tryd.prog 18 #[.agg #[.int .u64 a0, .int .u64 a1, .int .u64 a2, .int .u64 a3], .agg #[.int .u64 b0, .int .u64 b1, .int .u64 b2, .int .u64 b3]] w (Ret (.int .i64 1) w) := by
  have nl : ¬ a2 < b2 := by omega
  have dl3 : decide (a3 < b3) = false := decide_eq_false l3
  have dg3 : decide (b3 < a3) = false := decide_eq_false g3
  have dn : decide (a2 < b2) = false := decide_eq_false nl
  have dh : decide (b2 < a2) = true := decide_eq_true h
  go_enter Tryd.func18, Tryd.ntmps18
  go_wp2
  refine wp_loop_rounds 5 ?_
  rw [rounds_succ]
  go_wp2
  go_region
  go_wp2
  go_region
  go_wp2
  rw [rounds_succ]
  go_wp2
  go_region
  go_wp2
  go_region
  go_wp2
  go_returns
  refine ⟨rfl, ?_⟩
  repeat' (first | (with_reducible exact Below.refl _ _) | (with_reducible assumption) | (with_reducible refine up_alloc ?_ _) | (with_reducible refine up ?_ _) | (with_reducible refine up_drew ?_) | (with_reducible refine up_row ?_ ?_ _) | (with_reducible refine up_set ?_ ?_ _) | ((try dsimp only); first | omega | exact le_size | exact le_size1 | exact le_size2 | exact le_size3))
set_option maxHeartbeats 1000000 in
theorem cmp_1_lt (a0 a1 a2 a3 b0 b1 b2 b3 : Int) (l3 : ¬ a3 < b3) (g3 : ¬ b3 < a3) (l2 : ¬ a2 < b2) (g2 : ¬ b2 < a2) (h : a1 < b1) (w : World) :
    Calls Tryd.prog 18 #[.agg #[.int .u64 a0, .int .u64 a1, .int .u64 a2, .int .u64 a3], .agg #[.int .u64 b0, .int .u64 b1, .int .u64 b2, .int .u64 b3]] w (Ret (.int .i64 (-1)) w) := by
  have dl3 : decide (a3 < b3) = false := decide_eq_false l3
  have dg3 : decide (b3 < a3) = false := decide_eq_false g3
  have dl2 : decide (a2 < b2) = false := decide_eq_false l2
  have dg2 : decide (b2 < a2) = false := decide_eq_false g2
  have dh : decide (a1 < b1) = true := decide_eq_true h
  go_enter Tryd.func18, Tryd.ntmps18
  go_wp2
  refine wp_loop_rounds 5 ?_
  rw [rounds_succ]
  go_wp2
  go_region
  go_wp2
  go_region
  go_wp2
  rw [rounds_succ]
  go_wp2
  go_region
  go_wp2
  go_region
  go_wp2
  rw [rounds_succ]
  go_wp2
  go_region
  go_wp2
  go_returns
  refine ⟨rfl, ?_⟩
  repeat' (first | (with_reducible exact Below.refl _ _) | (with_reducible assumption) | (with_reducible refine up_alloc ?_ _) | (with_reducible refine up ?_ _) | (with_reducible refine up_drew ?_) | (with_reducible refine up_row ?_ ?_ _) | (with_reducible refine up_set ?_ ?_ _) | ((try dsimp only); first | omega | exact le_size | exact le_size1 | exact le_size2 | exact le_size3))
set_option maxHeartbeats 1000000 in
theorem cmp_1_gt (a0 a1 a2 a3 b0 b1 b2 b3 : Int) (l3 : ¬ a3 < b3) (g3 : ¬ b3 < a3) (l2 : ¬ a2 < b2) (g2 : ¬ b2 < a2) (h : b1 < a1) (w : World) :
    Calls Tryd.prog 18 #[.agg #[.int .u64 a0, .int .u64 a1, .int .u64 a2, .int .u64 a3], .agg #[.int .u64 b0, .int .u64 b1, .int .u64 b2, .int .u64 b3]] w (Ret (.int .i64 1) w) := by
  have nl : ¬ a1 < b1 := by omega
  have dl3 : decide (a3 < b3) = false := decide_eq_false l3
  have dg3 : decide (b3 < a3) = false := decide_eq_false g3
  have dl2 : decide (a2 < b2) = false := decide_eq_false l2
  have dg2 : decide (b2 < a2) = false := decide_eq_false g2
  have dn : decide (a1 < b1) = false := decide_eq_false nl
  have dh : decide (b1 < a1) = true := decide_eq_true h
  go_enter Tryd.func18, Tryd.ntmps18
  go_wp2
  refine wp_loop_rounds 5 ?_
  rw [rounds_succ]
  go_wp2
  go_region
  go_wp2
  go_region
  go_wp2
  rw [rounds_succ]
  go_wp2
  go_region
  go_wp2
  go_region
  go_wp2
  rw [rounds_succ]
  go_wp2
  go_region
  go_wp2
  go_region
  go_wp2
  go_returns
  refine ⟨rfl, ?_⟩
  repeat' (first | (with_reducible exact Below.refl _ _) | (with_reducible assumption) | (with_reducible refine up_alloc ?_ _) | (with_reducible refine up ?_ _) | (with_reducible refine up_drew ?_) | (with_reducible refine up_row ?_ ?_ _) | (with_reducible refine up_set ?_ ?_ _) | ((try dsimp only); first | omega | exact le_size | exact le_size1 | exact le_size2 | exact le_size3))
set_option maxHeartbeats 1000000 in
theorem cmp_0_lt (a0 a1 a2 a3 b0 b1 b2 b3 : Int) (l3 : ¬ a3 < b3) (g3 : ¬ b3 < a3) (l2 : ¬ a2 < b2) (g2 : ¬ b2 < a2) (l1 : ¬ a1 < b1) (g1 : ¬ b1 < a1) (h : a0 < b0) (w : World) :
    Calls Tryd.prog 18 #[.agg #[.int .u64 a0, .int .u64 a1, .int .u64 a2, .int .u64 a3], .agg #[.int .u64 b0, .int .u64 b1, .int .u64 b2, .int .u64 b3]] w (Ret (.int .i64 (-1)) w) := by
  have dl3 : decide (a3 < b3) = false := decide_eq_false l3
  have dg3 : decide (b3 < a3) = false := decide_eq_false g3
  have dl2 : decide (a2 < b2) = false := decide_eq_false l2
  have dg2 : decide (b2 < a2) = false := decide_eq_false g2
  have dl1 : decide (a1 < b1) = false := decide_eq_false l1
  have dg1 : decide (b1 < a1) = false := decide_eq_false g1
  have dh : decide (a0 < b0) = true := decide_eq_true h
  go_enter Tryd.func18, Tryd.ntmps18
  go_wp2
  refine wp_loop_rounds 5 ?_
  rw [rounds_succ]
  go_wp2
  go_region
  go_wp2
  go_region
  go_wp2
  rw [rounds_succ]
  go_wp2
  go_region
  go_wp2
  go_region
  go_wp2
  rw [rounds_succ]
  go_wp2
  go_region
  go_wp2
  go_region
  go_wp2
  rw [rounds_succ]
  go_wp2
  go_region
  go_wp2
  go_returns
  refine ⟨rfl, ?_⟩
  repeat' (first | (with_reducible exact Below.refl _ _) | (with_reducible assumption) | (with_reducible refine up_alloc ?_ _) | (with_reducible refine up ?_ _) | (with_reducible refine up_drew ?_) | (with_reducible refine up_row ?_ ?_ _) | (with_reducible refine up_set ?_ ?_ _) | ((try dsimp only); first | omega | exact le_size | exact le_size1 | exact le_size2 | exact le_size3))
set_option maxHeartbeats 1000000 in
theorem cmp_0_gt (a0 a1 a2 a3 b0 b1 b2 b3 : Int) (l3 : ¬ a3 < b3) (g3 : ¬ b3 < a3) (l2 : ¬ a2 < b2) (g2 : ¬ b2 < a2) (l1 : ¬ a1 < b1) (g1 : ¬ b1 < a1) (h : b0 < a0) (w : World) :
    Calls Tryd.prog 18 #[.agg #[.int .u64 a0, .int .u64 a1, .int .u64 a2, .int .u64 a3], .agg #[.int .u64 b0, .int .u64 b1, .int .u64 b2, .int .u64 b3]] w (Ret (.int .i64 1) w) := by
  have nl : ¬ a0 < b0 := by omega
  have dl3 : decide (a3 < b3) = false := decide_eq_false l3
  have dg3 : decide (b3 < a3) = false := decide_eq_false g3
  have dl2 : decide (a2 < b2) = false := decide_eq_false l2
  have dg2 : decide (b2 < a2) = false := decide_eq_false g2
  have dl1 : decide (a1 < b1) = false := decide_eq_false l1
  have dg1 : decide (b1 < a1) = false := decide_eq_false g1
  have dn : decide (a0 < b0) = false := decide_eq_false nl
  have dh : decide (b0 < a0) = true := decide_eq_true h
  go_enter Tryd.func18, Tryd.ntmps18
  go_wp2
  refine wp_loop_rounds 5 ?_
  rw [rounds_succ]
  go_wp2
  go_region
  go_wp2
  go_region
  go_wp2
  rw [rounds_succ]
  go_wp2
  go_region
  go_wp2
  go_region
  go_wp2
  rw [rounds_succ]
  go_wp2
  go_region
  go_wp2
  go_region
  go_wp2
  rw [rounds_succ]
  go_wp2
  go_region
  go_wp2
  go_region
  go_wp2
  go_returns
  refine ⟨rfl, ?_⟩
  repeat' (first | (with_reducible exact Below.refl _ _) | (with_reducible assumption) | (with_reducible refine up_alloc ?_ _) | (with_reducible refine up ?_ _) | (with_reducible refine up_drew ?_) | (with_reducible refine up_row ?_ ?_ _) | (with_reducible refine up_set ?_ ?_ _) | ((try dsimp only); first | omega | exact le_size | exact le_size1 | exact le_size2 | exact le_size3))
set_option maxHeartbeats 1000000 in
theorem cmp_eq (a0 a1 a2 a3 b0 b1 b2 b3 : Int) (l3 : ¬ a3 < b3) (g3 : ¬ b3 < a3) (l2 : ¬ a2 < b2) (g2 : ¬ b2 < a2) (l1 : ¬ a1 < b1) (g1 : ¬ b1 < a1) (l0 : ¬ a0 < b0) (g0 : ¬ b0 < a0) (w : World) :
    Calls Tryd.prog 18 #[.agg #[.int .u64 a0, .int .u64 a1, .int .u64 a2, .int .u64 a3], .agg #[.int .u64 b0, .int .u64 b1, .int .u64 b2, .int .u64 b3]] w (Ret (.int .i64 0) w) := by
  have dl3 : decide (a3 < b3) = false := decide_eq_false l3
  have dg3 : decide (b3 < a3) = false := decide_eq_false g3
  have dl2 : decide (a2 < b2) = false := decide_eq_false l2
  have dg2 : decide (b2 < a2) = false := decide_eq_false g2
  have dl1 : decide (a1 < b1) = false := decide_eq_false l1
  have dg1 : decide (b1 < a1) = false := decide_eq_false g1
  have dl0 : decide (a0 < b0) = false := decide_eq_false l0
  have dg0 : decide (b0 < a0) = false := decide_eq_false g0
  go_enter Tryd.func18, Tryd.ntmps18
  go_wp2
  refine wp_loop_rounds 5 ?_
  rw [rounds_succ]
  go_wp2
  go_region
  go_wp2
  go_region
  go_wp2
  rw [rounds_succ]
  go_wp2
  go_region
  go_wp2
  go_region
  go_wp2
  rw [rounds_succ]
  go_wp2
  go_region
  go_wp2
  go_region
  go_wp2
  rw [rounds_succ]
  go_wp2
  go_region
  go_wp2
  go_region
  go_wp2
  rw [rounds_succ]
  go_wp2
  go_returns
  refine ⟨rfl, ?_⟩
  repeat' (first | (with_reducible exact Below.refl _ _) | (with_reducible assumption) | (with_reducible refine up_alloc ?_ _) | (with_reducible refine up ?_ _) | (with_reducible refine up_drew ?_) | (with_reducible refine up_row ?_ ?_ _) | (with_reducible refine up_set ?_ ?_ _) | ((try dsimp only); first | omega | exact le_size | exact le_size1 | exact le_size2 | exact le_size3))
def cmpI (a b : Nat) : Int := if a < b then -1 else if a = b then 0 else 1
theorem cmp_all (a b : Nat) (ha : a < T256) (hb : b < T256) (w : World) : Calls Tryd.prog 18 #[num a, num b] w (Ret (.int .i64 (cmpI a b)) w) := by
  obtain ⟨a0, a1, a2, a3, k0, k1, k2, k3, rfl⟩ := four_of a ha
  obtain ⟨b0, b1, b2, b3, l0, l1, l2, l3, rfl⟩ := four_of b hb
  have k := limb_four a0 a1 a2 a3 k0 k1 k2 k3
  have l := limb_four b0 b1 b2 b3 l0 l1 l2 l3
  have lt (h : four a0 a1 a2 a3 < four b0 b1 b2 b3) : cmpI (four a0 a1 a2 a3) (four b0 b1 b2 b3) = -1 := by unfold cmpI; rw [if_pos h]
  have gt (h : four b0 b1 b2 b3 < four a0 a1 a2 a3) : cmpI (four a0 a1 a2 a3) (four b0 b1 b2 b3) = 1 := by unfold cmpI; rw [if_neg (by omega), if_neg (by omega)]
  have eq (h : four a0 a1 a2 a3 = four b0 b1 b2 b3) : cmpI (four a0 a1 a2 a3) (four b0 b1 b2 b3) = 0 := by unfold cmpI; rw [if_neg (by omega), if_pos h]
  simp only [num, k.1, k.2.1, k.2.2.1, k.2.2.2, l.1, l.2.1, l.2.2.1, l.2.2.2]
  clear k l ha hb
  by_cases p3 : a3 < b3
  · rw [lt (by unfold four; omega)]; exact cmp_3_lt _ _ _ _ _ _ _ _  (by omega) w
  by_cases q3 : b3 < a3
  · rw [gt (by unfold four; omega)]; exact cmp_3_gt _ _ _ _ _ _ _ _  (by omega) w
  by_cases p2 : a2 < b2
  · rw [lt (by unfold four; omega)]; exact cmp_2_lt _ _ _ _ _ _ _ _ (by omega) (by omega) (by omega) w
  by_cases q2 : b2 < a2
  · rw [gt (by unfold four; omega)]; exact cmp_2_gt _ _ _ _ _ _ _ _ (by omega) (by omega) (by omega) w
  by_cases p1 : a1 < b1
  · rw [lt (by unfold four; omega)]; exact cmp_1_lt _ _ _ _ _ _ _ _ (by omega) (by omega) (by omega) (by omega) (by omega) w
  by_cases q1 : b1 < a1
  · rw [gt (by unfold four; omega)]; exact cmp_1_gt _ _ _ _ _ _ _ _ (by omega) (by omega) (by omega) (by omega) (by omega) w
  by_cases p0 : a0 < b0
  · rw [lt (by unfold four; omega)]; exact cmp_0_lt _ _ _ _ _ _ _ _ (by omega) (by omega) (by omega) (by omega) (by omega) (by omega) (by omega) w
  by_cases q0 : b0 < a0
  · rw [gt (by unfold four; omega)]; exact cmp_0_gt _ _ _ _ _ _ _ _ (by omega) (by omega) (by omega) (by omega) (by omega) (by omega) (by omega) w
  rw [eq (by unfold four; omega)]; exact cmp_eq _ _ _ _ _ _ _ _ (by omega) (by omega) (by omega) (by omega) (by omega) (by omega) (by omega) (by omega) w
end Go.Proofs.YtkbgkobbadjpnaaDoor
namespace Go.Proofs.YtkbgkobbadjpnaaDoor
open Go.RowKit
set_option linter.unusedVariables false
theorem cmp_nu (a b : Nat) (ha : a < T256) (hb : b < T256) (w : World) : Calls Tryd.prog 18 #[nu a, nu b] w (Ret (.int .i64 (cmpI a b)) w) := by
  rw [← nu_num, ← nu_num]; exact cmp_all a b ha hb w
end Go.Proofs.YtkbgkobbadjpnaaDoor
namespace Go.Proofs.YtkbgkobbadjpnaaDoor
open Go.RowKit
set_option linter.unusedVariables false
set_option linter.unusedSimpArgs false
set_option maxRecDepth 100000
instance seg_num (n : Nat) : SegL (numC n) 4 := ⟨(numC_cells n).size, (numC_cells n).one⟩
/-- A share's cells. -/
abbrev sgSh (z : Int) (y : Nat) : Sg := [(1, #[.int .i64 z]), (4, numC y)]
theorem sgSh_len (z : Int) (y : Nat) : (rwL (sgSh z y)).length = 5 := rwL_len (g := sgSh z y) inferInstance
theorem sgSh_ne (z : Int) (y : Nat) : rwL (sgSh z y) ≠ [] := fun h => by have := sgSh_len z y; rw [h] at this; simp at this
def shE : Enc (Int × Nat) 5 := ⟨fun q => rwL (sgSh q.1 q.2), fun q => sgSh_len _ _, fun q y hy => List.all_eq_true.1 (rwL_one (g := sgSh q.1 q.2) inferInstance) y hy⟩
instance zg_share : ZG Tryd.prog 64 (sgSh 0 0) := ⟨by kernel_rfl, inferInstance⟩
/-- Which were there. -/
def thrC (S : List Int) : Array Value := ((List.range 256).map fun (i : Nat) => Value.bool (decide (((i : Nat) : Int) ∈ S))).toArray
theorem thrC_get (S : List Int) {i : Nat} (h : i < 256) : (thrC S)[i]? = some (.bool (decide ((i : Int) ∈ S))) := by simp [thrC, h]
instance (S : List Int) : Cells (thrC S) 256 := ⟨by simp [thrC], by simp [thrC, Value.oneCell']⟩
theorem thrC_put (S : List Int) {i : Nat} (h : i < 256) : putC (thrC S) i (.bool true) = thrC (S ++ [(i : Int)]) := by
  apply Array.ext
  · simp [putC, thrC]
  · intro j h1 h2
    simp only [putC, thrC, List.setIfInBounds_toArray, List.getElem_toArray, List.getElem_set, List.getElem_map, List.getElem_range, List.mem_append, List.mem_singleton]
    by_cases e : i = j
    · subst e; simp
    · have : ¬ (j : Int) = (i : Int) := by omega
      simp [e, this]
instance zc_thr : ZC Tryd.prog 118 (thrC []) := ⟨by kernel_rfl⟩
attribute [irreducible] thrC
/-- Shares that are told well. -/
def ShG (l : List (Int × Nat)) : Prop := (∀ q ∈ l, 1 ≤ q.1 ∧ q.1 ≤ 255 ∧ q.2 < SLn) ∧ (l.map (·.1)).Nodup
theorem ShG.take {l : List (Int × Nat)} (h : ShG l) (i : Nat) : ShG (l.take i) := ⟨fun q hq => h.1 q (List.mem_of_mem_take hq), by rw [List.map_take]; exact h.2.sublist (List.take_sublist _ _)⟩
theorem ShG.step {l : List (Int × Nat)} {i : Nat} {q : Int × Nat} (hi : l[i]? = some q) : ShG (l.take (i + 1)) ↔ ShG (l.take i) ∧ 1 ≤ q.1 ∧ q.1 ≤ 255 ∧ q.2 < SLn ∧ q.1 ∉ (l.take i).map (·.1) := by
  rw [List.take_add_one, hi]
  simp only [Option.toList, ShG, List.map_append, List.map_cons, List.map_nil, List.nodup_append, List.mem_append, List.mem_singleton]
  constructor
  · rintro ⟨h1, h2, _, h3⟩
    have hq := h1 q (.inr rfl)
    exact ⟨⟨fun r hr => h1 r (.inl hr), h2⟩, hq.1, hq.2.1, hq.2.2, fun hm => h3 _ hm _ rfl rfl⟩
  · rintro ⟨⟨h1, h2⟩, a, b, c, d⟩
    refine ⟨fun r hr => ?_, h2, by simp, fun x hx y hy e => ?_⟩
    · rcases hr with hr | rfl
      · exact h1 r hr
      · exact ⟨a, b, c⟩
    · subst hy; subst e; exact d hx
open Classical in
noncomputable def shErr (l : List (Int × Nat)) (x : Int) : Int := if 20 < l.length then 2 else if l.length = 0 ∨ x < 0 ∨ x > 255 ∨ ¬ ShG l then 1 else 0
/-- Shares as they lie. -/
abbrev Shs (w : World) (v : Value) (l : List (Int × Nat)) : Prop := Cs w v l.length (recs shE l)
set_option maxHeartbeats 1000000 in
theorem num_c (n : Nat) (h : n < 18446744073709551616) (w : World) : Calls Tryd.prog 52 [.int .i64 (n : Int)].toArray w (Ret (nu n) w) := by
  have t1 : IntKind.u64.wrap (n : Int) = (n : Int) := wrap_u64 _ (by omega) (by omega)
  have hv : Value.agg [.int .u64 (n : Int), .int .u64 0, .int .u64 0, .int .u64 0].toArray = nu n := four_val n 0 0 0 n (by rw [limb0]; omega) (by rw [limb1]; omega) (by rw [limb2]; omega) (by rw [limb3]; omega)
  refine fn_ret (N := _) Tryd.func52 rfl Tryd.ntmps52 Tryd.results52 (by simp) ?_
  simp only [initS, Nat.reduceAdd, Nat.zero_add]
  repeat' (first | (refine wlB ?_) | ((with_reducible refine sel_build ?_); refine wv rfl rfl (rd_cast (rd_buildA rfl rfl) hv) ?_) | (refine wlE ?_) | (refine efZCnn ?_; intro n hn) | (refine efBnn ?_; intro n hn) | (refine efB ?_) | (refine wl_skip rfl rfl ?_) | ((with_reducible refine wc_seq ?_); intro K hK) | (refine auC ?_) | (refine wc_cond rfl (fun hc => ?_) (fun hc => ?_)) | (refine wc_draw (by kernel_rfl) (by kernel_rfl) (by decide +kernel) ?_; intro w0 hw0 hm0; (try simp only [List.append_eq, List.cons_append, List.nil_append])) | (refine auP ?_) | ((refine auR ?_); clear hK K) | (refine auR ?_) | ((with_reducible refine hK _ _ ?_); clear hK K) | fail)
  first | refine end_ret (ResP.cell rfl ld_whole ResP.nil) ?_ | refine end_normal (ResP.cell rfl ld_whole ResP.nil) ?_
  first | rfl | (show _ = _; rfl) | (simp only [tupV, *]; done)
set_option maxHeartbeats 8000000 in
theorem check_c (w : World) {v : Value} {l : List (Int × Nat)} (h : Shs w v l) (hy : ∀ q ∈ l, q.2 < T256) {x : Int} : Calls Tryd.prog 54 [v, .int .i64 x].toArray w (Ret (.int .i64 (shErr l x)) w) := by
  haveI i0 := h.old
  have hl63 : l.length ≤ 9223372036854775807 := by obtain ⟨_, _, _, h1, h2, _⟩ := h.ln.out; simp only [maxLen] at h2; omega
  have LC := l_c
  obtain ⟨R, hR⟩ : ∃ R, R = shErr l x := ⟨_, rfl⟩
  rw [← hR]
  unfold shErr at hR
  by_cases c1 : 20 < l.length
  · rw [if_pos c1] at hR
    subst hR
    have t1 : decide ((l.length : Int) > 20) = true := decide_eq_true (by omega)
    clear hy h
    refine fn_ret (N := _) Tryd.func54 rfl Tryd.ntmps54 Tryd.results54 (by simp) ?_
    simp only [initS, Nat.reduceAdd, Nat.zero_add]
    repeat' (first | (refine wlS ?_) | (refine wlB ?_) | (refine wlE ?_) | (refine efSvao ?_; intro v oa ho) | (refine efBnn ?_; intro n hn) | (refine efB ?_) | (refine efBS ?_) | (refine wl_skip rfl rfl ?_) | (refine wdS ?_) | (refine wdV ?_) | (refine wdB ?_) | (refine wdE ?_) | (refine wd_skip rfl rfl ?_) | ((with_reducible refine seld_nil ?_); refine wd_nil hm0 ?_; clear hm0 hw0) | ((with_reducible refine wc_seq ?_); intro K hK) | (refine auC ?_) | (refine wc_cond rfl (fun hc => ?_) (fun hc => ?_)) | (refine wc_draw (by kernel_rfl) (by kernel_rfl) (by decide +kernel) ?_; intro w0 hw0 hm0; (try simp only [List.append_eq, List.cons_append, List.nil_append])) | (refine auP ?_) | ((refine auR ?_); clear hK K) | (refine auR ?_) | ((with_reducible refine hK _ _ ?_); clear hK K) | fail)
    first | refine end_ret (ResP.tmp rfl ResP.nil) ?_ | refine end_normal (ResP.tmp rfl ResP.nil) ?_
    first | rfl | (show _ = _; rfl) | (simp only [tupV, *]; done)
  rw [if_neg c1] at hR
  have t1 : decide ((l.length : Int) > 20) = false := decide_eq_false (by omega)
  by_cases c2 : l.length = 0
  · rw [if_pos (.inl c2)] at hR
    subst hR
    have t2 : ((l.length : Int) == 0) = true := by rw [c2]; rfl
    clear hy h
    refine fn_ret (N := _) Tryd.func54 rfl Tryd.ntmps54 Tryd.results54 (by simp) ?_
    simp only [initS, Nat.reduceAdd, Nat.zero_add]
    repeat' (first | (refine wlS ?_) | (refine wlB ?_) | (refine wlE ?_) | (refine efSvao ?_; intro v oa ho) | (refine efBnn ?_; intro n hn) | (refine efB ?_) | (refine efBS ?_) | (refine wl_skip rfl rfl ?_) | (refine wdS ?_) | (refine wdV ?_) | (refine wdB ?_) | (refine wdE ?_) | (refine wd_skip rfl rfl ?_) | ((with_reducible refine seld_nil ?_); refine wd_nil hm0 ?_; clear hm0 hw0) | ((with_reducible refine wc_seq ?_); intro K hK) | (refine auC ?_) | (refine wc_cond rfl (fun hc => ?_) (fun hc => ?_)) | (refine wc_draw (by kernel_rfl) (by kernel_rfl) (by decide +kernel) ?_; intro w0 hw0 hm0; (try simp only [List.append_eq, List.cons_append, List.nil_append])) | (refine auP ?_) | ((refine auR ?_); clear hK K) | (refine auR ?_) | ((with_reducible refine hK _ _ ?_); clear hK K) | fail)
    first | refine end_ret (ResP.tmp rfl ResP.nil) ?_ | refine end_normal (ResP.tmp rfl ResP.nil) ?_
    first | rfl | (show _ = _; rfl) | (simp only [tupV, *]; done)
  have t2 : ((l.length : Int) == 0) = false := by rw [beq_eq_false_iff_ne]; omega
  by_cases c3 : x < 0
  · rw [if_pos (.inr (.inl c3))] at hR
    subst hR
    have t3 : decide (x < 0) = true := decide_eq_true c3
    clear hy h
    refine fn_ret (N := _) Tryd.func54 rfl Tryd.ntmps54 Tryd.results54 (by simp) ?_
    simp only [initS, Nat.reduceAdd, Nat.zero_add]
    repeat' (first | (refine wlS ?_) | (refine wlB ?_) | (refine wlE ?_) | (refine efSvao ?_; intro v oa ho) | (refine efBnn ?_; intro n hn) | (refine efB ?_) | (refine efBS ?_) | (refine wl_skip rfl rfl ?_) | (refine wdS ?_) | (refine wdV ?_) | (refine wdB ?_) | (refine wdE ?_) | (refine wd_skip rfl rfl ?_) | ((with_reducible refine seld_nil ?_); refine wd_nil hm0 ?_; clear hm0 hw0) | ((with_reducible refine wc_seq ?_); intro K hK) | (refine auC ?_) | (refine wc_cond rfl (fun hc => ?_) (fun hc => ?_)) | (refine wc_draw (by kernel_rfl) (by kernel_rfl) (by decide +kernel) ?_; intro w0 hw0 hm0; (try simp only [List.append_eq, List.cons_append, List.nil_append])) | (refine auP ?_) | ((refine auR ?_); clear hK K) | (refine auR ?_) | ((with_reducible refine hK _ _ ?_); clear hK K) | fail)
    first | refine end_ret (ResP.tmp rfl ResP.nil) ?_ | refine end_normal (ResP.tmp rfl ResP.nil) ?_
    first | rfl | (show _ = _; rfl) | (simp only [tupV, *]; done)
  have t3 : decide (x < 0) = false := decide_eq_false c3
  by_cases c4 : x > 255
  · rw [if_pos (.inr (.inr (.inl c4)))] at hR
    subst hR
    have t4 : decide (x > 255) = true := decide_eq_true c4
    clear hy h
    refine fn_ret (N := _) Tryd.func54 rfl Tryd.ntmps54 Tryd.results54 (by simp) ?_
    simp only [initS, Nat.reduceAdd, Nat.zero_add]
    repeat' (first | (refine wlS ?_) | (refine wlB ?_) | (refine wlE ?_) | (refine efSvao ?_; intro v oa ho) | (refine efBnn ?_; intro n hn) | (refine efB ?_) | (refine efBS ?_) | (refine wl_skip rfl rfl ?_) | (refine wdS ?_) | (refine wdV ?_) | (refine wdB ?_) | (refine wdE ?_) | (refine wd_skip rfl rfl ?_) | ((with_reducible refine seld_nil ?_); refine wd_nil hm0 ?_; clear hm0 hw0) | ((with_reducible refine wc_seq ?_); intro K hK) | (refine auC ?_) | (refine wc_cond rfl (fun hc => ?_) (fun hc => ?_)) | (refine wc_draw (by kernel_rfl) (by kernel_rfl) (by decide +kernel) ?_; intro w0 hw0 hm0; (try simp only [List.append_eq, List.cons_append, List.nil_append])) | (refine auP ?_) | ((refine auR ?_); clear hK K) | (refine auR ?_) | ((with_reducible refine hK _ _ ?_); clear hK K) | fail)
    first | refine end_ret (ResP.tmp rfl ResP.nil) ?_ | refine end_normal (ResP.tmp rfl ResP.nil) ?_
    first | rfl | (show _ = _; rfl) | (simp only [tupV, *]; done)
  have t4 : decide (x > 255) = false := decide_eq_false c4
  have hR' : (ShG l → R = 0) ∧ (¬ ShG l → R = 1) := by
    refine ⟨fun hg => ?_, fun hg => ?_⟩
    · rw [hR, if_neg]
      rintro (h1 | h1 | h1 | h1)
      · exact c2 h1
      · exact c3 h1
      · exact c4 h1
      · exact h1 hg
    · rw [hR, if_pos (.inr (.inr (.inr hg)))]
  clear hR
  refine fn_ret (N := _) Tryd.func54 rfl Tryd.ntmps54 Tryd.results54 (by simp) ?_
  simp only [initS, Nat.reduceAdd, Nat.zero_add]
  repeat' (first | (refine wlS ?_) | (refine wlB ?_) | (refine wlE ?_) | (refine efSvao ?_; intro v oa ho) | (refine efZCnn ?_; intro n hn) | (refine efBnn ?_; intro n hn) | (refine efB ?_) | (refine efBS ?_) | (refine wl_skip rfl rfl ?_) | (refine wdS ?_) | (refine wdV ?_) | (refine wdB ?_) | (refine wdE ?_) | (refine wd_skip rfl rfl ?_) | ((with_reducible refine seld_nil ?_); refine wd_nil hm0 ?_; clear hm0 hw0) | ((with_reducible refine wc_seq ?_); intro K hK) | (refine auC ?_) | (refine wc_cond rfl (fun hc => ?_) (fun hc => ?_)) | (refine wc_draw (by kernel_rfl) (by kernel_rfl) (by decide +kernel) ?_; intro w0 hw0 hm0; (try simp only [List.append_eq, List.cons_append, List.nil_append])) | (refine auP ?_) | ((refine auR ?_); clear hK K) | (refine auR ?_) | ((with_reducible refine hK _ _ ?_); clear hK K) | fail)
  obtain ⟨n5, rfl⟩ : ∃ n5, n5 = n := ⟨n, rfl⟩
  refine wc_loop (σ := Nat) (fun i => [(5, ptr n5), (22, v), (23, .int .i64 (l.length : Int)), (24, .int .i64 (i : Int))])
    (fun i => [(n5, (thrC ((l.take i).map (·.1)), 118))])
    (fun i => i ≤ l.length ∧ ShG (l.take i)) (fun i => l.length - i) 0 ⟨Nat.zero_le _, by simp [ShG]⟩ (Fits.of ⟨rfl, rfl, rfl, rfl, trivial⟩ (SubL.refl _) rfl) ?_
  rintro i ⟨hi, hg⟩
  by_cases hlt : i < l.length
  · obtain ⟨⟨z, y⟩, hx⟩ : ∃ q, l[i]? = some q := ⟨l[i], List.getElem?_eq_getElem hlt⟩
    have hget : ((recs shE l).drop (i * 5)).take 5 = rwL (sgSh z y) := recs_get shE hx
    have hlen := sgSh_len z y
    have hne := sgSh_ne z y
    have hyT : y < T256 := hy _ (List.mem_of_getElem? hx)
    have CC := cmp_nu y SLn hyT SL_T
    have u1 : decide ((i : Int) < (l.length : Int)) = true := decide_eq_true (by omega)
    have u2 : IntKind.i64.wrap ((i : Int) + 1) = ((i + 1 : Nat) : Int) := by rw [wrap_i64 _ (by omega) (by omega)]; omega
    have j1 : (i : Int) < (l.length : Int) := by omega
    have hst := ShG.step hx
    dsimp only at hst
    have bad : ¬ (1 ≤ z ∧ z ≤ 255 ∧ y < SLn ∧ z ∉ (l.take i).map (·.1)) → R = 1 := fun hb => by
      refine hR'.2 fun hgl => ?_
      exact hb (hst.1 (hgl.take _)).2
    clear t1 t2 t3 t4 c1 c2 c3 c4 h hy
    by_cases d1 : z < 1
    · obtain rfl := bad (fun hc => by omega)
      have s1 : decide (z < 1) = true := decide_eq_true d1
      clear bad hst hR'
      repeat' (first | (refine wlS ?_) | (refine wlG ?_) | (refine wlB ?_) | ((with_reducible refine sel_call ?_); refine wl_rd rfl rfl (rd_call rfl rfl rfl (fun w hm => by with_reducible first | exact LC w | exact CC w)) ?_) | (refine wlE ?_) | (refine efSvao ?_; intro v oa ho) | (refine efG ?_) | (refine efGnn ?_; intro n hn) | (refine efBnn ?_; intro n hn) | (refine efB ?_) | (refine efBS ?_) | (refine wl_skip rfl rfl ?_) | (refine wdS ?_) | (refine wdG ?_) | (refine wdV ?_) | (refine wdB ?_) | ((with_reducible refine seld_call ?_); refine wd_rd hm0 rfl rfl rfl rfl (rd_call rfl rfl rfl (fun w hm => by with_reducible first | exact LC w | exact CC w)) ?_) | (refine wdE ?_) | (refine wd_skip rfl rfl ?_) | ((with_reducible refine seld_nil ?_); refine wd_nil hm0 ?_; clear hm0 hw0) | ((with_reducible refine wc_seq ?_); intro K hK) | (refine auC ?_) | (refine wc_cond rfl (fun hc => ?_) (fun hc => ?_)) | (refine wc_draw (by kernel_rfl) (by kernel_rfl) (by decide +kernel) ?_; intro w0 hw0 hm0; (try simp only [List.append_eq, List.cons_append, List.nil_append])) | (refine auP ?_) | ((refine auR ?_); clear hK K) | (refine auR ?_) | ((with_reducible refine hK _ _ ?_); clear hK K) | fail)
      first | refine end_ret (ResP.tmp rfl ResP.nil) ?_ | refine end_normal (ResP.tmp rfl ResP.nil) ?_
      first | rfl | (show _ = _; rfl) | (simp only [tupV, *]; done)
    have s1 : decide (z < 1) = false := decide_eq_false d1
    by_cases d2 : z > 255
    · obtain rfl := bad (fun hc => by omega)
      have s2 : decide (z > 255) = true := decide_eq_true d2
      clear bad hst hR'
      repeat' (first | (refine wlS ?_) | (refine wlG ?_) | (refine wlB ?_) | ((with_reducible refine sel_call ?_); refine wl_rd rfl rfl (rd_call rfl rfl rfl (fun w hm => by with_reducible first | exact LC w | exact CC w)) ?_) | (refine wlE ?_) | (refine efSvao ?_; intro v oa ho) | (refine efG ?_) | (refine efGnn ?_; intro n hn) | (refine efBnn ?_; intro n hn) | (refine efB ?_) | (refine efBS ?_) | (refine wl_skip rfl rfl ?_) | (refine wdS ?_) | (refine wdG ?_) | (refine wdV ?_) | (refine wdB ?_) | ((with_reducible refine seld_call ?_); refine wd_rd hm0 rfl rfl rfl rfl (rd_call rfl rfl rfl (fun w hm => by with_reducible first | exact LC w | exact CC w)) ?_) | (refine wdE ?_) | (refine wd_skip rfl rfl ?_) | ((with_reducible refine seld_nil ?_); refine wd_nil hm0 ?_; clear hm0 hw0) | ((with_reducible refine wc_seq ?_); intro K hK) | (refine auC ?_) | (refine wc_cond rfl (fun hc => ?_) (fun hc => ?_)) | (refine wc_draw (by kernel_rfl) (by kernel_rfl) (by decide +kernel) ?_; intro w0 hw0 hm0; (try simp only [List.append_eq, List.cons_append, List.nil_append])) | (refine auP ?_) | ((refine auR ?_); clear hK K) | (refine auR ?_) | ((with_reducible refine hK _ _ ?_); clear hK K) | fail)
      first | refine end_ret (ResP.tmp rfl ResP.nil) ?_ | refine end_normal (ResP.tmp rfl ResP.nil) ?_
      first | rfl | (show _ = _; rfl) | (simp only [tupV, *]; done)
    have s2 : decide (z > 255) = false := decide_eq_false d2
    by_cases d3 : SLn ≤ y
    · obtain rfl := bad (fun hc => by omega)
      have s3 : decide (cmpI y SLn ≥ 0) = true := decide_eq_true (by unfold cmpI; rw [if_neg (by omega)]; split <;> decide)
      clear bad hst hR'
      generalize cmpI y SLn = cz at *
      generalize SLn = sl at *
      repeat' (first | (refine wlS ?_) | (refine wlG ?_) | (refine wlB ?_) | ((with_reducible refine sel_call ?_); refine wl_rd rfl rfl (rd_call rfl rfl rfl (fun w hm => by with_reducible first | exact LC w | exact CC w)) ?_) | (refine wlE ?_) | (refine efSvao ?_; intro v oa ho) | (refine efG ?_) | (refine efGnn ?_; intro n hn) | (refine efBnn ?_; intro n hn) | (refine efB ?_) | (refine efBS ?_) | (refine wl_skip rfl rfl ?_) | (refine wdS ?_) | (refine wdG ?_) | (refine wdV ?_) | (refine wdB ?_) | ((with_reducible refine seld_call ?_); refine wd_rd hm0 rfl rfl rfl rfl (rd_call rfl rfl rfl (fun w hm => by with_reducible first | exact LC w | exact CC w)) ?_) | (refine wdE ?_) | (refine wd_skip rfl rfl ?_) | ((with_reducible refine seld_nil ?_); refine wd_nil hm0 ?_; clear hm0 hw0) | ((with_reducible refine wc_seq ?_); intro K hK) | (refine auC ?_) | (refine wc_cond rfl (fun hc => ?_) (fun hc => ?_)) | (refine wc_draw (by kernel_rfl) (by kernel_rfl) (by decide +kernel) ?_; intro w0 hw0 hm0; (try simp only [List.append_eq, List.cons_append, List.nil_append])) | (refine auP ?_) | ((refine auR ?_); clear hK K) | (refine auR ?_) | ((with_reducible refine hK _ _ ?_); clear hK K) | fail)
      first | refine end_ret (ResP.tmp rfl ResP.nil) ?_ | refine end_normal (ResP.tmp rfl ResP.nil) ?_
      first | rfl | (show _ = _; rfl) | (simp only [tupV, *]; done)
    have s3 : decide (cmpI y SLn ≥ 0) = false := decide_eq_false (by unfold cmpI; rw [if_pos (by omega)]; decide)
    obtain ⟨k, rfl⟩ := Int.eq_ofNat_of_zero_le (show 0 ≤ z by omega)
    have hk : k < 256 := by omega
    have hp : 0 + ((k : Nat) : Int).toNat * 1 = k := by omega
    have j2 : ((k : Nat) : Int) < ((256 : Nat) : Int) := by omega
    have g0 := thrC_get ((l.take i).map (·.1)) hk
    by_cases d4 : ((k : Nat) : Int) ∈ (l.take i).map (·.1)
    · obtain rfl := bad (fun hc => hc.2.2.2 d4)
      rw [decide_eq_true d4] at g0
      clear bad hst hR'
      generalize cmpI y SLn = cz at *
      generalize SLn = sl at *
      repeat' (first | (refine wlS ?_) | (refine wlG ?_) | (refine wlB ?_) | ((with_reducible refine sel_call ?_); refine wl_rd rfl rfl (rd_call rfl rfl rfl (fun w hm => by with_reducible first | exact LC w | exact CC w)) ?_) | (refine wlE ?_) | (refine efSvao ?_; intro v oa ho) | (refine efG ?_) | (refine efGnn ?_; intro n hn) | (refine efBnn ?_; intro n hn) | (refine efB ?_) | (refine efBS ?_) | (refine wl_skip rfl rfl ?_) | (refine wdS ?_) | (refine wdG ?_) | (refine wdV ?_) | (refine wdB ?_) | ((with_reducible refine seld_call ?_); refine wd_rd hm0 rfl rfl rfl rfl (rd_call rfl rfl rfl (fun w hm => by with_reducible first | exact LC w | exact CC w)) ?_) | (refine wdE ?_) | (refine wd_skip rfl rfl ?_) | ((with_reducible refine seld_nil ?_); refine wd_nil hm0 ?_; clear hm0 hw0) | ((with_reducible refine wc_seq ?_); intro K hK) | (refine auC ?_) | (refine wc_cond rfl (fun hc => ?_) (fun hc => ?_)) | (refine wc_draw (by kernel_rfl) (by kernel_rfl) (by decide +kernel) ?_; intro w0 hw0 hm0; (try simp only [List.append_eq, List.cons_append, List.nil_append])) | (refine auP ?_) | ((refine auR ?_); clear hK K) | (refine auR ?_) | ((with_reducible refine hK _ _ ?_); clear hK K) | fail)
      first | refine end_ret (ResP.tmp rfl ResP.nil) ?_ | refine end_normal (ResP.tmp rfl ResP.nil) ?_
      first | rfl | (show _ = _; rfl) | (simp only [tupV, *]; done)
    · rw [decide_eq_false d4] at g0
      have hg2 := hst.2 ⟨hg, by omega, by omega, by omega, d4⟩
      have hpt := thrC_put ((l.take i).map (·.1)) hk
      have e1 : ((l.take (i + 1)).map (·.1)) = ((l.take i).map (·.1)) ++ [((k : Nat) : Int)] := by rw [List.take_add_one, hx]; simp
      rw [← e1] at hpt
      clear bad hst hR' d4
      generalize cmpI y SLn = cz at *
      generalize SLn = sl at *
      repeat' (first | (refine wlS ?_) | (refine wlG ?_) | (refine wlB ?_) | ((with_reducible refine sel_call ?_); refine wl_rd rfl rfl (rd_call rfl rfl rfl (fun w hm => by with_reducible first | exact LC w | exact CC w)) ?_) | (refine wlE ?_) | (refine efSvao ?_; intro v oa ho) | (refine efG ?_) | (refine efGnn ?_; intro n hn) | (refine efBnn ?_; intro n hn) | (refine efB ?_) | (refine efBS ?_) | (refine wl_skip rfl rfl ?_) | (refine wdS ?_) | (refine wdG ?_) | (refine wdV ?_) | (refine wdB ?_) | ((with_reducible refine seld_call ?_); refine wd_rd hm0 rfl rfl rfl rfl (rd_call rfl rfl rfl (fun w hm => by with_reducible first | exact LC w | exact CC w)) ?_) | (refine wdE ?_) | (refine wd_skip rfl rfl ?_) | ((with_reducible refine seld_nil ?_); refine wd_nil hm0 ?_; clear hm0 hw0) | ((with_reducible refine wc_seq ?_); intro K hK) | (refine auC ?_) | (refine wc_cond rfl (fun hc => ?_) (fun hc => ?_)) | (refine wc_draw (by kernel_rfl) (by kernel_rfl) (by decide +kernel) ?_; intro w0 hw0 hm0; (try simp only [List.append_eq, List.cons_append, List.nil_append])) | (refine auP ?_) | ((refine auR ?_); clear hK K) | (refine auR ?_) | ((with_reducible refine hK _ _ ?_); clear hK K) | fail)
      refine ⟨i + 1, ⟨hlt, hg2⟩, by omega, Fits.of ⟨rfl, rfl, rfl, rfl, trivial⟩ ?_ rfl⟩
      repeat (first | exact SubL.nil | exact SubL.refl _ | refine SubL.keep ?_ | exact SubL.headA _ _ | refine SubL.keepA ?_ _ | refine SubL.skip ?_ | refine SubL.skipA ?_ _)
  · obtain rfl : i = l.length := by omega
    have u1 : decide ((l.length : Int) < (l.length : Int)) = false := decide_eq_false (by omega)
    rw [List.take_length] at hg
    obtain rfl := hR'.1 hg
    clear h hy t1 t2 t3 t4 hR'
    repeat' (first | (refine wlS ?_) | (refine wlB ?_) | (refine wlE ?_) | (refine efSvao ?_; intro v oa ho) | (refine efBnn ?_; intro n hn) | (refine efB ?_) | (refine efBS ?_) | (refine wl_skip rfl rfl ?_) | (refine wdS ?_) | (refine wdV ?_) | (refine wdB ?_) | (refine wdE ?_) | (refine wd_skip rfl rfl ?_) | ((with_reducible refine seld_nil ?_); refine wd_nil hm0 ?_; clear hm0 hw0) | ((with_reducible refine wc_seq ?_); intro K hK) | (refine auC ?_) | (refine wc_cond rfl (fun hc => ?_) (fun hc => ?_)) | (refine wc_draw (by kernel_rfl) (by kernel_rfl) (by decide +kernel) ?_; intro w0 hw0 hm0; (try simp only [List.append_eq, List.cons_append, List.nil_append])) | (refine auP ?_) | ((refine auR ?_); clear hK K) | (refine auR ?_) | ((with_reducible refine hK _ _ ?_); clear hK K) | fail)
    first | refine end_ret (ResP.tmp rfl ResP.nil) ?_ | refine end_normal (ResP.tmp rfl ResP.nil) ?_
    first | rfl | (show _ = _; rfl) | (simp only [tupV, *]; done)
/-! ### At -/
def liI (l : List (Nat × Nat)) : List (Int × Nat) := l.map fun q => ((q.1 : Int), q.2)
theorem liI_len (l : List (Nat × Nat)) : (liI l).length = l.length := by simp [liI]
theorem liI_get {l : List (Nat × Nat)} {i : Nat} {q : Nat × Nat} (h : l[i]? = some q) : (liI l)[i]? = some ((q.1 : Int), q.2) := by simp [liI, h]
set_option maxHeartbeats 8000000 in
theorem at_bad (w : World) {v : Value} {l : List (Int × Nat)} (h : Shs w v l) (hy : ∀ q ∈ l, q.2 < T256) {x : Int} (hx : shErr l x ≠ 0) : Calls Tryd.prog 29 [v, .int .i64 x].toArray w (Ret (.tuple #[nu 0, .int .i64 (shErr l x)]) w) := by
  haveI i0 := h.old
  have CH : ∀ w', Shs w' v l → Calls Tryd.prog 54 [v, .int .i64 x].toArray w' (Ret (.int .i64 (shErr l x)) w') := fun w' h' => check_c w' h' hy
  have t1 : (shErr l x != 0) = true := by simpa using hx
  clear h hy hx
  generalize shErr l x = e at *
  refine fn_ret (N := _) Tryd.func29 rfl Tryd.ntmps29 Tryd.results29 (by simp) ?_
  simp only [initS, Nat.reduceAdd, Nat.zero_add]
  repeat' (first | (refine wlS ?_) | (refine wlB ?_) | (refine wlNB ?_) | (refine wlNL ?_) | ((with_reducible refine sel_call ?_); refine wl_rd rfl rfl (rd_call rfl rfl rfl (fun w hm => by with_reducible exact CH w (Vw.out w hm))) ?_) | (refine wlE ?_) | (refine efSvao ?_; intro v oa ho) | (refine efZCnn ?_; intro n hn) | (refine efBnn ?_; intro n hn) | (refine efB ?_) | (refine efBS ?_) | (refine wl_skip rfl rfl ?_) | (refine wdS ?_) | (refine wdV ?_) | (refine wdB ?_) | ((with_reducible refine seld_call ?_); refine wd_rd hm0 rfl rfl rfl rfl (rd_call rfl rfl rfl (fun w hm => by with_reducible exact CH w (Vw.out w hm))) ?_) | (refine wdE ?_) | (refine wdT ?_) | (refine wdTO ?_) | (refine wd_skip rfl rfl ?_) | ((with_reducible refine seld_nil ?_); refine wd_nil hm0 ?_; clear hm0 hw0) | ((with_reducible refine wc_seq ?_); intro K hK) | (refine auC ?_) | (refine wc_cond rfl (fun hc => ?_) (fun hc => ?_)) | (refine wc_draw (by kernel_rfl) (by kernel_rfl) (by decide +kernel) ?_; intro w0 hw0 hm0; (try simp only [List.append_eq, List.cons_append, List.nil_append])) | (refine auP ?_) | ((refine auR ?_); clear hK K) | (refine auR ?_) | ((with_reducible refine hK _ _ ?_); clear hK K) | fail)
  first | refine end_ret (ResP.cell rfl ld_whole (ResP.tmp rfl ResP.nil)) ?_ | refine end_normal (ResP.cell rfl ld_whole (ResP.tmp rfl ResP.nil)) ?_
  first | rfl | (show _ = _; rfl) | (simp only [tupV, *]; done)
set_option maxHeartbeats 16000000 in
theorem at_ok (w : World) {v : Value} {l : List (Nat × Nat)} (h : Shs w v (liI l)) (hl : ∀ q ∈ l, q.1 < 256 ∧ q.2 < T256) {x : Nat} (hxs : x < 256) (hx : shErr (liI l) x = 0) : Calls Tryd.prog 29 [v, .int .i64 (x : Int)].toArray w (Ret (.tuple #[nu (shAt l x), .int .i64 0]) w) := by
  haveI i0 := h.old
  have CH : ∀ w', Shs w' v (liI l) → Calls Tryd.prog 54 [v, .int .i64 (x : Int)].toArray w' (Ret (.int .i64 0) w') := fun w' h' => by
    have := check_c w' h' (x := (x : Int)) (fun q hq => by
      obtain ⟨r, hr, rfl⟩ := List.mem_map.1 hq
      exact (hl r hr).2)
    rwa [hx] at this
  have hl63 : l.length ≤ 9223372036854775807 := by obtain ⟨_, _, _, h1, h2, _⟩ := h.ln.out; rw [liI_len] at h1; simp only [maxLen] at h2; omega
  have t1 : ((0 : Int) != 0) = false := rfl
  have hlen0 := liI_len l
  obtain ⟨cs, hcs⟩ : ∃ cs, cs = recs shE (liI l) := ⟨_, rfl⟩
  have NX := num_c x (by omega)
  have xT : x < T256 := Nat.lt_trans hxs (by decide)
  unfold Shs at CH h
  rw [hlen0] at CH h i0
  rw [← hcs] at CH h i0
  have hR : shAt l x = smN l x l.length := rfl
  rw [hR]
  clear hR h hx
  have hz : smN l x 0 = 0 := rfl
  refine fn_ret (N := _) Tryd.func29 rfl Tryd.ntmps29 Tryd.results29 (by simp) ?_
  simp only [initS, Nat.reduceAdd, Nat.zero_add]
  repeat' (first | (refine wlS ?_) | (refine wlB ?_) | (refine wlNB ?_) | (refine wlNL ?_) | ((with_reducible refine sel_call ?_); refine wl_rd rfl rfl (rd_call rfl rfl rfl (fun w hm => by with_reducible exact CH w (Vw.out w hm))) ?_) | (refine wlE ?_) | (refine efSvao ?_; intro v oa ho) | (refine efZCnn ?_; intro n hn) | (refine efBnn ?_; intro n hn) | (refine efB ?_) | (refine efBS ?_) | (refine wl_skip rfl rfl ?_) | (refine wdS ?_) | (refine wdV ?_) | (refine wdB ?_) | ((with_reducible refine seld_call ?_); refine wd_rd hm0 rfl rfl rfl rfl (rd_call rfl rfl rfl (fun w hm => by with_reducible exact CH w (Vw.out w hm))) ?_) | (refine wdE ?_) | (refine wdT ?_) | (refine wdTO ?_) | (refine wd_skip rfl rfl ?_) | ((with_reducible refine seld_nil ?_); refine wd_nil hm0 ?_; clear hm0 hw0) | ((with_reducible refine wc_seq ?_); intro K hK) | (refine auC ?_) | (refine wc_cond rfl (fun hc => ?_) (fun hc => ?_)) | (refine wc_draw (by kernel_rfl) (by kernel_rfl) (by decide +kernel) ?_; intro w0 hw0 hm0; (try simp only [List.append_eq, List.cons_append, List.nil_append])) | (refine auP ?_) | ((refine auR ?_); clear hK K) | (refine auR ?_) | ((with_reducible refine hK _ _ ?_); clear hK K) | fail)
  rename_i n4 _
  obtain ⟨n7, rfl⟩ : ∃ n7, n7 = n := ⟨n, rfl⟩
  refine wc_loop (σ := Nat) (fun i => [(0, v), (1, .int .i64 (x : Int)), (4, ptr n4), (7, ptr n7), (21, v), (22, .int .i64 (l.length : Int)), (23, .int .i64 (i : Int))])
    (fun i => [(n7, (numC (smN l x i), 29)), (n4, (numC 0, 29))])
    (fun i => i ≤ l.length) (fun i => l.length - i) 0 (Nat.zero_le _) (Fits.of ⟨rfl, rfl, rfl, rfl, rfl, rfl, rfl, trivial⟩ (by rw [hz]; exact SubL.refl _) rfl) ?_
  intro i hi
  clear CH
  by_cases hlt : i < l.length
  · obtain ⟨⟨a, y⟩, hq⟩ : ∃ q, l[i]? = some q := ⟨l[i], List.getElem?_eq_getElem hlt⟩
    have hget : (cs.drop (i * 5)).take 5 = rwL (sgSh (a : Int) y) := by rw [hcs]; exact recs_get shE (liI_get hq)
    have hlen := sgSh_len (a : Int) y
    have hne := sgSh_ne (a : Int) y
    have hb := hl _ (List.mem_of_getElem? hq)
    dsimp only at hb
    have aT : a < T256 := Nat.lt_trans hb.1 (by decide)
    have yT := hb.2
    have NA := num_c a (by omega)
    have u1 : decide ((i : Int) < (l.length : Int)) = true := decide_eq_true (by omega)
    have u2 : IntKind.i64.wrap ((i : Int) + 1) = ((i + 1 : Nat) : Int) := by rw [wrap_i64 _ (by omega) (by omega)]; omega
    have j1 : (i : Int) < (l.length : Int) := by omega
    have hp0 : ∀ z, prN (oth (l.take 0) i) z = 1 := fun z => by rw [oth_none]; rfl
    have hend : smN l x (i + 1) = sadd (smN l x i) (smul y (smul (prN (oth (l.take l.length) i) x) (sinv (prN (oth (l.take l.length) i) a)))) := by
      show sadd _ (tmN l x i) = _
      rw [oth_all, tmN, hq]
    repeat' (first | (refine wlS ?_) | (refine wlG ?_) | (refine wlB ?_) | (refine wlNL ?_) | (refine wlE ?_) | (refine efSvao ?_; intro v oa ho) | (refine efG ?_) | (refine efGnn ?_; intro n hn) | (refine efZCnn ?_; intro n hn) | (refine efBnn ?_; intro n hn) | (refine efB ?_) | (refine efBS ?_) | (refine wl_skip rfl rfl ?_) | (refine wdS ?_) | (refine wdG ?_) | (refine wdV ?_) | (refine wdB ?_) | (refine wdE ?_) | (refine wdT ?_) | (refine wdTO ?_) | (refine wd_skip rfl rfl ?_) | ((with_reducible refine seld_nil ?_); refine wd_nil hm0 ?_; clear hm0 hw0) | ((with_reducible refine wc_seq ?_); intro K hK) | (refine auC ?_) | (refine wc_cond rfl (fun hc => ?_) (fun hc => ?_)) | (refine wc_draw (by kernel_rfl) (by kernel_rfl) (by decide +kernel) ?_; intro w0 hw0 hm0; (try simp only [List.append_eq, List.cons_append, List.nil_append])) | (refine auP ?_) | ((refine auR ?_); clear hK K) | (refine auR ?_) | ((with_reducible refine hK _ _ ?_); clear hK K) | fail)
    rename_i n9 _ n10 _
    obtain ⟨n11, rfl⟩ : ∃ n11, n11 = n := ⟨n, rfl⟩
    refine wc_loop (σ := Nat) (fun j => [(0, v), (1, .int .i64 (x : Int)), (4, ptr n4), (7, ptr n7), (21, v), (22, .int .i64 (l.length : Int)), (23, .int .i64 (i : Int)), (8, .int .i64 (i : Int)), (9, ptr n9), (10, ptr n10), (11, ptr n11), (30, v), (31, .int .i64 (l.length : Int)), (32, .int .i64 (j : Int))])
      (fun j => [(n11, (numC (prN (oth (l.take j) i) a), 29)), (n10, (numC (prN (oth (l.take j) i) x), 29)), (n9, (rwA (sgSh (a : Int) y), 64)), (n7, (numC (smN l x i), 29)), (n4, (numC 0, 29))])
      (fun j => j ≤ l.length) (fun j => l.length - j) 0 (Nat.zero_le _) (Fits.of ⟨rfl, rfl, rfl, rfl, rfl, rfl, rfl, rfl, rfl, rfl, rfl, rfl, rfl, rfl, trivial⟩ (by rw [hp0, hp0]; exact SubL.refl _) rfl) ?_
    intro j hj
    by_cases hjl : j < l.length
    · obtain ⟨⟨b, y'⟩, hq'⟩ : ∃ q, l[j]? = some q := ⟨l[j], List.getElem?_eq_getElem hjl⟩
      have hget' : (cs.drop (j * 5)).take 5 = rwL (sgSh (b : Int) y') := by rw [hcs]; exact recs_get shE (liI_get hq')
      have hlen' := sgSh_len (b : Int) y'
      have hne' := sgSh_ne (b : Int) y'
      have hb' := hl _ (List.mem_of_getElem? hq')
      dsimp only at hb'
      have bT : b < T256 := Nat.lt_trans hb'.1 (by decide)
      have NB' := num_c b (by omega)
      have v1 : decide ((j : Int) < (l.length : Int)) = true := decide_eq_true (by omega)
      have v2 : IntKind.i64.wrap ((j : Int) + 1) = ((j + 1 : Nat) : Int) := by rw [wrap_i64 _ (by omega) (by omega)]; omega
      have j2 : (j : Int) < (l.length : Int) := by omega
      have hst := fun z => congrArg (fun xs => prN xs z) (oth_step (i := i) hq')
      clear hget hl u1 u2 j1 hp0
      by_cases hij : i = j
      · subst hij
        simp only [if_true] at hst
        have v3 : ((i : Int) != (i : Int)) = false := by simp
        repeat' (first | (refine wlS ?_) | (refine wlG ?_) | (refine wlB ?_) | (refine wlNB ?_) | (refine wlE ?_) | (refine efSvao ?_; intro v oa ho) | (refine efG ?_) | (refine efGnn ?_; intro n hn) | (refine efBnn ?_; intro n hn) | (refine efB ?_) | (refine efBS ?_) | (refine wl_skip rfl rfl ?_) | (refine wdS ?_) | (refine wdG ?_) | (refine wdV ?_) | (refine wdB ?_) | (refine wdE ?_) | (refine wdT ?_) | (refine wdTO ?_) | (refine wd_skip rfl rfl ?_) | ((with_reducible refine seld_nil ?_); refine wd_nil hm0 ?_; clear hm0 hw0) | ((with_reducible refine wc_seq ?_); intro K hK) | (refine auC ?_) | (refine wc_cond rfl (fun hc => ?_) (fun hc => ?_)) | (refine wc_draw (by kernel_rfl) (by kernel_rfl) (by decide +kernel) ?_; intro w0 hw0 hm0; (try simp only [List.append_eq, List.cons_append, List.nil_append])) | (refine auP ?_) | ((refine auR ?_); clear hK K) | (refine auR ?_) | ((with_reducible refine hK _ _ ?_); clear hK K) | fail)
        refine ⟨i + 1, hjl, by omega, Fits.of ⟨rfl, rfl, rfl, rfl, rfl, rfl, rfl, rfl, rfl, rfl, rfl, rfl, rfl, rfl, trivial⟩ ?_ rfl⟩
        rw [hst, hst]
        repeat (first | exact SubL.nil | exact SubL.refl _ | refine SubL.keep ?_ | exact SubL.headA _ _ | refine SubL.keepA ?_ _ | refine SubL.skip ?_ | refine SubL.skipA ?_ _)
      · simp only [if_neg hij, prN_snoc] at hst
        have v3 : ((i : Int) != (j : Int)) = true := by simp; omega
        repeat' (first | (refine wlS ?_) | (refine wlG ?_) | (refine wlB ?_) | (refine wlNB ?_) | ((with_reducible refine sel_call ?_); first | refine wl_rd rfl rfl (rd_call rfl rfl rfl (fun w hm => by with_reducible first | exact NX w | exact NA w | exact NB' w)) ?_ | refine wl_rd rfl rfl (rd_call rfl rfl rfl (fun w _ => by with_reducible exact negS _ (by first | (with_reducible assumption) | (with_reducible exact SmT.out) | decide) w)) ?_ | refine wl_rd rfl rfl (rd_call rfl rfl rfl (fun w _ => by with_reducible exact addS _ _ (by first | (with_reducible assumption) | (with_reducible exact SmT.out) | decide) (by first | (with_reducible assumption) | (with_reducible exact SmT.out) | decide) w)) ?_ | refine wl_rd rfl rfl (rd_call rfl rfl rfl (fun w _ => by with_reducible exact mulS _ _ (by first | (with_reducible assumption) | (with_reducible exact SmT.out) | decide) (by first | (with_reducible assumption) | (with_reducible exact SmT.out) | decide) w)) ?_) | (refine wlE ?_) | (refine efSvao ?_; intro v oa ho) | (refine efG ?_) | (refine efGnn ?_; intro n hn) | (refine efBnn ?_; intro n hn) | (refine efB ?_) | (refine efBS ?_) | (refine wl_skip rfl rfl ?_) | (refine wdS ?_) | (refine wdG ?_) | (refine wdV ?_) | (refine wdB ?_) | ((with_reducible refine seld_call ?_); refine wd_rd hm0 rfl rfl rfl rfl (rd_call rfl rfl rfl (fun w hm => by with_reducible first | exact NX w | exact NA w | exact NB' w)) ?_) | ((with_reducible refine seld_call ?_); refine wd_rd hm0 rfl rfl rfl rfl (rd_call rfl rfl rfl (fun w _ => by with_reducible exact negS _ (by first | (with_reducible assumption) | (with_reducible exact SmT.out) | decide) w)) ?_) | ((with_reducible refine seld_call ?_); refine wd_rd hm0 rfl rfl rfl rfl (rd_call rfl rfl rfl (fun w _ => by with_reducible exact addS _ _ (by first | (with_reducible assumption) | (with_reducible exact SmT.out) | decide) (by first | (with_reducible assumption) | (with_reducible exact SmT.out) | decide) w)) ?_) | ((with_reducible refine seld_call ?_); refine wd_rd hm0 rfl rfl rfl rfl (rd_call rfl rfl rfl (fun w _ => by with_reducible exact mulS _ _ (by first | (with_reducible assumption) | (with_reducible exact SmT.out) | decide) (by first | (with_reducible assumption) | (with_reducible exact SmT.out) | decide) w)) ?_) | (refine wdE ?_) | (refine wdT ?_) | (refine wdTO ?_) | (refine wd_skip rfl rfl ?_) | ((with_reducible refine seld_nil ?_); refine wd_nil hm0 ?_; clear hm0 hw0) | ((with_reducible refine wc_seq ?_); intro K hK) | (refine auC ?_) | (refine wc_cond rfl (fun hc => ?_) (fun hc => ?_)) | (refine wc_draw (by kernel_rfl) (by kernel_rfl) (by decide +kernel) ?_; intro w0 hw0 hm0; (try simp only [List.append_eq, List.cons_append, List.nil_append])) | (refine auP ?_) | ((refine auR ?_); clear hK K) | (refine auR ?_) | ((with_reducible refine hK _ _ ?_); clear hK K) | fail)
        refine ⟨j + 1, hjl, by omega, Fits.of ⟨rfl, rfl, rfl, rfl, rfl, rfl, rfl, rfl, rfl, rfl, rfl, rfl, rfl, rfl, trivial⟩ ?_ rfl⟩
        rw [hst, hst]
        repeat (first | exact SubL.nil | exact SubL.refl _ | refine SubL.keep ?_ | exact SubL.headA _ _ | refine SubL.keepA ?_ _ | refine SubL.skip ?_ | refine SubL.skipA ?_ _)
    · obtain rfl : j = l.length := by omega
      have v1 : decide ((l.length : Int) < (l.length : Int)) = false := decide_eq_false (by omega)
      clear hget hl hp0
      repeat' (first | (refine wlS ?_) | (refine wlG ?_) | (refine wlB ?_) | ((with_reducible refine sel_call ?_); first | refine wl_rd rfl rfl (rd_call rfl rfl rfl (fun w _ => by with_reducible exact invS _ (by first | (with_reducible assumption) | (with_reducible exact SmT.out) | decide) w)) ?_ | refine wl_rd rfl rfl (rd_call rfl rfl rfl (fun w _ => by with_reducible exact addS _ _ (by first | (with_reducible assumption) | (with_reducible exact SmT.out) | decide) (by first | (with_reducible assumption) | (with_reducible exact SmT.out) | decide) w)) ?_ | refine wl_rd rfl rfl (rd_call rfl rfl rfl (fun w _ => by with_reducible exact mulS _ _ (by first | (with_reducible assumption) | (with_reducible exact SmT.out) | decide) (by first | (with_reducible assumption) | (with_reducible exact SmT.out) | decide) w)) ?_) | (refine wlE ?_) | (refine efSvao ?_; intro v oa ho) | (refine efG ?_) | (refine efGnn ?_; intro n hn) | (refine efBnn ?_; intro n hn) | (refine efB ?_) | (refine efBS ?_) | (refine wl_skip rfl rfl ?_) | (refine wdS ?_) | (refine wdG ?_) | (refine wdV ?_) | (refine wdB ?_) | ((with_reducible refine seld_call ?_); refine wd_rd hm0 rfl rfl rfl rfl (rd_call rfl rfl rfl (fun w _ => by with_reducible exact invS _ (by first | (with_reducible assumption) | (with_reducible exact SmT.out) | decide) w)) ?_) | ((with_reducible refine seld_call ?_); refine wd_rd hm0 rfl rfl rfl rfl (rd_call rfl rfl rfl (fun w _ => by with_reducible exact addS _ _ (by first | (with_reducible assumption) | (with_reducible exact SmT.out) | decide) (by first | (with_reducible assumption) | (with_reducible exact SmT.out) | decide) w)) ?_) | ((with_reducible refine seld_call ?_); refine wd_rd hm0 rfl rfl rfl rfl (rd_call rfl rfl rfl (fun w _ => by with_reducible exact mulS _ _ (by first | (with_reducible assumption) | (with_reducible exact SmT.out) | decide) (by first | (with_reducible assumption) | (with_reducible exact SmT.out) | decide) w)) ?_) | (refine wdE ?_) | (refine wdT ?_) | (refine wdTO ?_) | (refine wd_skip rfl rfl ?_) | ((with_reducible refine seld_nil ?_); refine wd_nil hm0 ?_; clear hm0 hw0) | ((with_reducible refine wc_seq ?_); intro K hK) | (refine auC ?_) | (refine wc_cond rfl (fun hc => ?_) (fun hc => ?_)) | (refine wc_draw (by kernel_rfl) (by kernel_rfl) (by decide +kernel) ?_; intro w0 hw0 hm0; (try simp only [List.append_eq, List.cons_append, List.nil_append])) | (refine auP ?_) | ((refine auR ?_); clear hK K) | (refine auR ?_) | ((with_reducible refine hK _ _ ?_); clear hK K) | fail)
      refine ⟨i + 1, hlt, by omega, Fits.of ⟨rfl, rfl, rfl, rfl, rfl, rfl, rfl, trivial⟩ ?_ rfl⟩
      rw [hend]
      repeat (first | exact SubL.nil | exact SubL.refl _ | refine SubL.keep ?_ | exact SubL.headA _ _ | refine SubL.keepA ?_ _ | refine SubL.skip ?_ | refine SubL.skipA ?_ _)
  · obtain rfl : i = l.length := by omega
    have u1 : decide ((l.length : Int) < (l.length : Int)) = false := decide_eq_false (by omega)
    clear hl
    repeat' (first | (refine wlS ?_) | (refine wlB ?_) | (refine wlE ?_) | (refine efSvao ?_; intro v oa ho) | (refine efBnn ?_; intro n hn) | (refine efB ?_) | (refine efBS ?_) | (refine wl_skip rfl rfl ?_) | (refine wdS ?_) | (refine wdV ?_) | (refine wdB ?_) | (refine wdE ?_) | (refine wdT ?_) | (refine wdTO ?_) | (refine wd_skip rfl rfl ?_) | ((with_reducible refine seld_nil ?_); refine wd_nil hm0 ?_; clear hm0 hw0) | ((with_reducible refine wc_seq ?_); intro K hK) | (refine auC ?_) | (refine wc_cond rfl (fun hc => ?_) (fun hc => ?_)) | (refine wc_draw (by kernel_rfl) (by kernel_rfl) (by decide +kernel) ?_; intro w0 hw0 hm0; (try simp only [List.append_eq, List.cons_append, List.nil_append])) | (refine auP ?_) | ((refine auR ?_); clear hK K) | (refine auR ?_) | ((with_reducible refine hK _ _ ?_); clear hK K) | fail)
    first | refine end_ret (ResP.cell rfl ld_whole (ResP.tmp rfl ResP.nil)) ?_ | refine end_normal (ResP.cell rfl ld_whole (ResP.tmp rfl ResP.nil)) ?_
    first | rfl | (show _ = _; rfl) | (simp only [tupV, *]; done)
end Go.Proofs.YtkbgkobbadjpnaaDoor
namespace Go.Proofs.YtkbgkobbadjpnaaDoor
open Go.RowKit
set_option linter.unusedVariables false
section
variable {X : Cx} {s : Slots} {l : Blks} {o : Oper}
theorem rd_eqlG {t yt : Nat} {x y : Operand} {p : Option Addr} {n c : Nat} {v : Value} {r : Bool} (ho : o.op = .binOp .eql t x y yt) (hx : val s x = some (.slice p n c)) (hy : val s y = some v)
    (q : ∀ w : World, (binOp .eql t (.slice p n c) v).run X.P w = .ok (.bool r) w) : RdV X s l o (.bool r) :=
  rd_val fun e w he hm => by
    simp only [execOp, ho, he.eval hx, he.eval hy, eqGuard]
    simp [q w]
theorem rd_neqG {t yt : Nat} {x y : Operand} {p : Option Addr} {n c : Nat} {v : Value} {r : Bool} (ho : o.op = .binOp .neq t x y yt) (hx : val s x = some (.slice p n c)) (hy : val s y = some v)
    (q : ∀ w : World, (binOp .neq t (.slice p n c) v).run X.P w = .ok (.bool r) w) : RdV X s l o (.bool r) :=
  rd_val fun e w he hm => by
    simp only [execOp, ho, he.eval hx, he.eval hy, eqGuard]
    simp [q w]
end
theorem sl_nil {P : Program} {t e : Nat} (h : P.underlying t = some (.slice e)) {p : Option Addr} {n c : Nat} (w : World) : (binOp .eql t (.slice p n c) (.slice none 0 0)).run P w = .ok (.bool p.isNone) w := by
  refine run_eql (r := p.isNone) w rfl ?_
  rw [show (10000 : Nat) = 9999 + 1 from rfl, Op.equalIn, Sem.run_bind, run_underlying h]
  cases p <;> rfl
theorem sl_nonil {P : Program} {t e : Nat} (h : P.underlying t = some (.slice e)) {p : Option Addr} {n c : Nat} (w : World) : (binOp .neq t (.slice p n c) (.slice none 0 0)).run P w = .ok (.bool (!p.isNone)) w := by
  refine run_neq (r := p.isNone) w rfl ?_
  rw [show (10000 : Nat) = 9999 + 1 from rfl, Op.equalIn, Sem.run_bind, run_underlying h]
  cases p <;> rfl
end Go.Proofs.YtkbgkobbadjpnaaDoor
namespace Go.Proofs.YtkbgkobbadjpnaaDoor
open Go.RowKit
set_option linter.unusedVariables false
set_option linter.unusedSimpArgs false
theorem At.ex2 {n : Nat} {x : Array Value × TypeId} (y : Array Value × TypeId) {l l' : Blks} (h : At l n x y l') : ∃ pre post, l = pre ++ ((n, x) :: post) ∧ l' = pre ++ ((n, y) :: post) := by
  induction h with
  | here => exact ⟨[], _, rfl, rfl⟩
  | there _ ih =>
    obtain ⟨pre, post, h1, h2⟩ := ih
    exact ⟨_ :: pre, post, by rw [h1]; rfl, by rw [h2]; rfl⟩
theorem At.same {n : Nat} {x : Array Value × TypeId} {l l' : Blks} (h : At l n x x l') : l' = l := by
  obtain ⟨pre, post, h1, h2⟩ := At.ex2 x h
  rw [h1, h2]
theorem made_one (z : Value) (n : Nat) : (madeCells #[z] n).toList = List.replicate n z := by
  apply List.ext_getElem
  · simp [size_madeCells]
  · intro i h1 h2
    simp [madeCells, Nat.mod_one]
theorem zeros_one (z : Value) (n : Nat) : (Builtin.zeroCells #[z] n).toList = List.replicate n z := by
  apply List.ext_getElem
  · simp [Builtin.zeroCells]
  · intro i h1 h2
    simp [Builtin.zeroCells, Nat.mod_one]
theorem bl_rep (n k : Nat) : bl (List.replicate n k) = List.replicate n (.int .u8 (k : Int)) := by simp [bl]
section
variable {X : Cx} {s : Slots} {l : Blks} {o : Oper} {v : Value} {Q : Post} {ops : Array Oper} {r : List Oper}
theorem putR_bys (q p : List Nat) (off : Nat) : ((bys q).toList.take off ++ bl p ++ (bys q).toList.drop (off + (bl p).length)).toArray = bys (q.take off ++ (p ++ q.drop (off + p.length))) := by
  simp [bys, bl]
/-- Bytes are copied into a block that is known. -/
theorem wl_copyB {x y : Operand} {t t' e te n cap b off m : Nat} {u : Value} {p q q' : List Nat} {l' : Blks} {s' : Slots} (hg : gd s ops o = some true) (hd : dOk X.N o.dst = true) (hop : o.op = .call { callee := .builtin .copy, args := #[x, y], argTypes := #[t, t'] })
    (hx : val s x = some (.slice (some ⟨b, off, none⟩) n cap)) (hy : val s y = some u) [ht : UT X.P t (.slice e)] [hs : SZ X.P e 1] [hu : VwB X l u m p] {k : Nat}
    (h : Wl X ops Q r s' l') (hat : At l b (bys q, te) (bys q', te) l' := by repeat (first | exact At.here | apply At.there)) (hk : Nat.min m n = k := by first | (with_reducible assumption) | rfl)
    (hfit : off + k ≤ q.length := by first | (with_reducible assumption) | omega) (hq : q.take off ++ (p.take k ++ q.drop (off + k)) = q' := by first | (with_reducible assumption) | rfl)
    (hs' : sputO s o.dst (.int .i64 (k : Int)) = s' := by (try dsimp only [sputO, sput, Nat.reduceBEq, cond_true, cond_false, beq_self_eq_true]); first | done | exact rfl) : Wl X ops Q (o :: r) s l := fun a w hst => by
  subst hs'
  have hw := gd_wanted hst.env hg
  obtain ⟨hcs, hok⟩ := hu.out w hst.mem
  obtain ⟨pu, cu, rfl, h1, h2, h3⟩ := hcs.ln.out
  have hgb := hst.mem.cls.now b (bys q) te (hat.now hst.mem.nd)
  have hkm : k ≤ m := by rw [← hk]; exact Nat.min_le_left _ _
  have htl : (bl (p.take k)).length = k := by rw [bl_len, List.length_take, hok.len]; omega
  have hrun : ∃ w', (Builtin.copy_ #[t, t'] o.type #[.slice (some ⟨b, off, none⟩) n cap, .slice pu m cu]).run X.P w = .ok (.int .i64 (k : Int)) w' ∧ Mem X l' w' := by
    by_cases h0 : k = 0
    · subst h0
      refine ⟨w, run_copy_none (P := X.P) w t t' o.type e _ pu n cap m cu ht.out hs.out hk, ?_⟩
      have e1 : q' = q := by rw [← hq]; simp
      subst e1
      have e2 : l' = l := hat.same
      rw [e2]; exact hst.mem
    · obtain ⟨b', off', rfl⟩ := h3 (by omega)
      refine ⟨_, run_copy_row (P := X.P) w t t' o.type e b off n cap ⟨b', off', none⟩ m cu (bys q) te (bl (p.take k)) ht.out hs.out hgb (by rw [htl, hk]) (fun j y hj => ?_) (by rw [htl]; simpa [bys, bl_len] using hfit) (bl_one _) |>.trans (by rw [htl]; rfl), ?_⟩
      · have hjl : j < k := by rw [← htl]; exact (List.getElem?_eq_some_iff.1 hj).1
        have hj' : (bl p)[j]? = some y := by
          rw [← bl_take, List.getElem?_take_of_lt hjl] at hj
          exact hj
        obtain ⟨b2, off2, cap2, hv, hc⟩ := hcs.cell j y hj'
        injection hv with hv
        injection hv with hv
        injection hv with hb' ho'
        subst hb'; subst ho'
        rw [Addr.add_mid]; exact hc
      · have e0 : off + k = off + (bl (p.take k)).length := by rw [htl]
        rw [e0, putR_bys]
        have e1 : q.take off ++ (p.take k ++ q.drop (off + (p.take k).length)) = q' := by
          rw [← hq, List.length_take, hok.len, Nat.min_eq_left hkm]
        rw [e1]
        exact hst.mem.upd hat
  obtain ⟨w', hrun, hmem⟩ := hrun
  unfold wpList
  rw [if_pos hw]
  refine .inl ?_
  unfold Oper.wp
  have : (execOp a.eval o).run X.P w = .ok (.value (.int .i64 (k : Int))) w' := by
    simp only [execOp, hop, resolve, invoke, builtin, Sem.run_bind, Sem.run_pure, Result.andThen_ok, List.map_toArray, List.map_cons, List.map_nil, hst.env.eval hx, hst.env.eval hy, hrun]
  rw [this]
  exact h _ _ ⟨hst.env.put hd _, hmem⟩
/-- New noughts. -/
theorem wl_makeB {t e bytes n : Nat} {x y : Operand} {kx ky : IntKind} {s' : Value → Slots} {f : Blks → Blks} (hg : gd s ops o = some true) (hd : dOk X.N o.dst = true) (hop : o.op = .makeSlice t x y) (hx : val s x = some (.int kx (n : Int))) (hy : val s y = some (.int ky (n : Int)))
    [ht : UT X.P t (.slice e)] [hei : EI X.P e 1 bytes #[.int .u8 0]] [hf : Snoc l f] (h : ∀ v' oa', OwnB e v' n (List.replicate n 0) oa' → Wl X ops Q r (s' v') (f oa'))
    (hb : n * bytes ≤ 140737488355328 ∧ n ≤ 1152921504606846976 := by (refine ⟨?_, ?_⟩ <;> omega))
    (hs' : ∀ v', sputO s o.dst v' = s' v' := by intro _; (try dsimp only [sputO, sput, Nat.reduceBEq, cond_true, cond_false, beq_self_eq_true]); first | done | exact rfl) : Wl X ops Q (o :: r) s l := fun ac w hst => by
  obtain rfl : (fun v' => sputO s o.dst v') = s' := funext hs'
  have hw := gd_wanted hst.env hg
  obtain ⟨i, zv, hi, hsz, hby, hz, hzc, hzs⟩ := hei.out
  have hr := run_make (P := X.P) w t e i zv ht.out hi hz kx ky (n : Int) (n : Int) (by omega) (Int.le_refl _) (by rw [hby, ← Int.natCast_mul, Nat.mul_comm]; omega) (by omega)
  rw [hsz, Nat.mul_one, Int.toNat_natCast, hzc] at hr
  unfold wpList
  rw [if_pos hw]
  refine .inl ?_
  unfold Oper.wp
  have : (execOp ac.eval o).run X.P w = .ok (.value (.slice (some ⟨w.heap.size, 0, none⟩) n n)) (w.alloc (.cells (madeCells #[.int .u8 0] n) e)) := by
    simp only [execOp, hop, hst.env.eval hx, hst.env.eval hy, Sem.run_bind, hr, Result.andThen_ok, Sem.run_pure]
  rw [this]
  haveI : Seg l [] f := ⟨l, [], by simp, fun o => by rw [hf.out, List.append_nil]⟩
  refine h _ [(w.heap.size, (madeCells #[.int .u8 0] n, e))] ⟨⟨by rw [bl_len, List.length_replicate, Nat.mul_one], .inr ⟨w.heap.size, n, madeCells #[.int .u8 0] n, rfl, Nat.le_refl _, ?_, by rw [size_madeCells, Nat.mul_one], ?_, rfl⟩⟩, BL.rep n 0 (by decide)⟩ _ _ ⟨hst.env.put hd _, (upd_new (w := w) (w1 := w) rfl rfl rfl rfl [] _ e).mem hst.mem⟩
  · simp only [maxLen]; omega
  · rw [made_one, bl_rep, Nat.mul_one, List.take_of_length_le (by simp)]; rfl
/-- Noughts are appended (gc's append of make). -/
theorem append_zeros {P : Program} {oa : Blks} {w : World} {t tn ty e bytes : Nat} {v : Value} {n m : Nat} {p : List Nat} {kn kv : IntKind}
    (ht : P.underlying t = some (.slice e)) (htn : P.underlying tn = some (.int kn)) (hei : EI P e 1 bytes #[.int .u8 0]) (hown : OwnB e v n p oa) (hd : Hd oa w)
    (h63 : n + m ≤ maxLen) (hb : (n + m) * bytes ≤ 140737488355328) :
    ∃ v' w' oa', (Builtin.append_ #[t, tn] ty #[v, .int kv (m : Int)]).run P w = .ok v' w' ∧ OwnB e v' (n + m) (p ++ List.replicate m 0) oa' ∧ Upd w oa w' oa' := by
  obtain ⟨i, zv, hi, hsz, hby, hz, hzc, hzs⟩ := hei.out
  have hxl := hown.own.len
  rw [Nat.mul_one] at hxl
  have hok : BL (n + m) (p ++ List.replicate m 0) := hown.ok.app (BL.rep m 0 (by decide))
  have hnd : (keys oa).Nodup := by rcases hown.own.out with ⟨_, _, rfl⟩ | ⟨g, cap, cur, _, _, _, _, _, rfl⟩ <;> simp [keys]
  have hl2 : (bl (p ++ List.replicate m 0)).length = (n + m) * 1 := by rw [bl_len, hok.len, Nat.mul_one]
  have h63' : n + m ≤ 9223372036854775807 := by simp only [maxLen] at h63; omega
  have hw : IntKind.i64.wrap (m : Int) = m := by rw [IntKind.wrap_i64]; omega
  have hneg : ¬ ((m : Int) < 0) := by omega
  have hmb : m * bytes ≤ 140737488355328 := Nat.le_trans (Nat.mul_le_mul_right _ (by omega)) hb
  have h48i : ¬ (281474976710656 < (m : Int) * (bytes : Int)) := by rw [← Int.natCast_mul]; omega
  have hw0 : IntKind.i64.wrap 0 = 0 := by decide
  by_cases h0 : m = 0
  · subst h0
    refine ⟨v, w, oa, ?_, ⟨by simpa using hown.own, by simpa using hok⟩, rfl, rfl, rfl, Nat.le_refl _, fun _ _ _ => rfl, hnd, hd, fun n hn => .inl hn⟩
    rcases hown.own.out with ⟨rfl, rfl, rfl⟩ | ⟨g, cap, cur, rfl, hnc, hcm, hcs, htake, rfl⟩
    · simp [Builtin.append_, run_underlying ht, run_underlying htn, sizeOf, typeInfo, hi, asInt, asIntOf, hw0]
    · simp [Builtin.append_, run_underlying ht, run_underlying htn, sizeOf, typeInfo, hi, asInt, asIntOf, hw0, hnc, storeCells]
  have size_new : ∀ k, n + m ≤ k → ((bl p).toArray ++ Builtin.zeroCells zv.cells m ++ Builtin.zeroCells zv.cells (k - (n + m))).size = k * 1 := fun k hk => by
    simp only [Array.size_append, List.size_toArray, size_zeroCells, hzc]
    rw [hxl]
    simp only [List.size_toArray, List.length_cons, List.length_nil]
    omega
  have take_new : ∀ k, ((bl p).toArray ++ Builtin.zeroCells zv.cells m ++ Builtin.zeroCells zv.cells (k - (n + m))).toList.take ((n + m) * 1) = bl (p ++ List.replicate m 0) := fun k => by
    rw [Array.toList_append, Array.toList_append, hzc, zeros_one, bl_app, bl_rep, ← hl2, bl_app, bl_rep]
    exact List.take_left
  rcases hown.own.out with ⟨rfl, rfl, rfl⟩ | ⟨g, cap, cur, rfl, hnc, hcm, hcs, htake, rfl⟩
  · have hx : p = [] := List.eq_nil_of_length_eq_zero (by rw [← hown.ok.len])
    subst hx
    have hr := Lib.run_append_nil_zeros (P := P) w t tn ty e i zv kv kn ht htn hi hz m (by omega) (by omega) (by omega) (by rw [hby]; omega)
    have hge := grownCap_ge w m 0 e
    have hcl := grownCap_le_maxLen w m 0 e (by omega)
    have hs := size_new (grownCap w m 0 e) (by omega)
    have htk := take_new (grownCap w m 0 e)
    simp only [Nat.zero_add, bl, List.map_nil, Array.empty_append, List.nil_append] at hs htk hl2 hok ⊢
    exact ⟨_, _, [(w.heap.size, (_, e))], hr, ⟨⟨hl2, .inr ⟨w.heap.size, _, _, rfl, hge, hcl, hs, htk, rfl⟩⟩, hok⟩, upd_new (w := w) (w1 := w.drew) rfl rfl rfl rfl [] _ e⟩
  · have hg : w.heap[g]? = some (.cells cur e (0, 0)) := hd (g, (cur, e)) (by simp)
    by_cases hroom : n + m ≤ cap
    · have hfit : n + (List.replicate m (Value.int .u8 0)).length ≤ cur.size := by rw [List.length_replicate, hcs]; omega
      have hst := run_storeCells_at P g n e (List.replicate m (Value.int .u8 0)) 0 cur w hg (by simpa using hfit) (fun y hy => by rw [(List.mem_replicate.1 hy).2]; rfl)
      simp only [Nat.add_zero] at hst
      have hms : ¬ (m * i.size = 0) := by rw [hsz]; omega
      have hr : (Builtin.append_ #[t, tn] ty #[.slice (some ⟨g, 0, none⟩) n cap, .int kv (m : Int)]).run P w = .ok (.slice (some ⟨g, 0, none⟩) (n + m) cap) (w.setRow g (cur.toList.take n ++ List.replicate m (Value.int .u8 0) ++ cur.toList.drop (n + (List.replicate m (Value.int .u8 0)).length)).toArray) := by
        simp [Builtin.append_, run_underlying ht, run_underlying htn, sizeOf, typeInfo, zeroValue, hi, hz, hsz, hby, asInt, asIntOf, hw, hneg, h0, h48i, hroom, hzc, zeros_one, Addr.add_lit, hst]
      refine ⟨_, _, [(g, (_, e))], hr, ⟨⟨hl2, .inr ⟨g, cap, _, rfl, hroom, hcm, ?_, ?_, rfl⟩⟩, hok⟩, rfl, rfl, rfl, by simp, fun k hk hne => setRow_other w g k _ (fun e => hne (by simp [keys, e])), by simp [keys], hd_one (setRow_heap w g cur _ e _ hg), fun n hn => .inl (by simpa [keys] using hn)⟩
      · simp only [List.size_toArray, List.length_append, List.length_take, List.length_drop, Array.length_toList, List.length_replicate]
        omega
      · rw [Nat.mul_one] at htake
        simp only [htake]
        rw [← hl2, bl_app, bl_rep]
        exact List.take_left
    · have holds : ∀ j y, (bl p)[j]? = some y → w.cell? ((⟨g, 0, none⟩ : Addr).add j) = some y := (hown.own.row hd).cells (g := g) rfl
      have hfc := run_firstCells_some (P := P) w.drew i.size n ⟨g, 0, none⟩ n cap (bl p) (by rw [hxl, hsz, Nat.mul_one]) holds
      have hr := Lib.run_append_grow_zeros (P := P) w t tn ty e i zv kv kn ht htn hi hz (some ⟨g, 0, none⟩) n cap (bl p) hfc m (by omega) (by omega) (by omega) (by omega) (by rw [hby]; omega) (by rw [hby]; exact growslice_fits (by omega) hb)
      have hge := grownCap_ge w (n + m) cap e
      have hcl := grownCap_le_maxLen w (n + m) cap e h63
      exact ⟨_, _, [(w.heap.size, (_, e))], hr, ⟨⟨hl2, .inr ⟨w.heap.size, _, _, rfl, hge, hcl, size_new _ hge, take_new _, rfl⟩⟩, hok⟩, upd_new (w := w) (w1 := w.drew) rfl rfl rfl rfl _ _ e⟩
theorem wl_append0 {x y : Operand} {t tn e bytes n m : Nat} {kn kv : IntKind} {p : List Nat} {oa : Blks} {f : Blks → Blks} {s' : Value → Slots}
    (hg : gd s ops o = some true) (hd : dOk X.N o.dst = true) (hop : o.op = .call { callee := .builtin .append, args := #[x, y], argTypes := #[t, tn] })
    (hx : val s x = some v) (hy : val s y = some (.int kv (m : Int))) [ht : UT X.P t (.slice e)] [htn : UT X.P tn (.int kn)] [hei : EI X.P e 1 bytes #[.int .u8 0]] [hown : OwnB e v n p oa] [hseg : Seg l oa f]
    (h : ∀ v' oa', OwnB e v' (n + m) (p ++ List.replicate m 0) oa' → Wl X ops Q r (s' v') (f oa'))
    (h63 : (n + m) * bytes ≤ 1152921504606846976 ∧ n + m ≤ 1152921504606846976 ∧ (n + m) * bytes ≤ 140737488355328 := by (refine ⟨?_, ?_, ?_⟩ <;> omega))
    (hs' : ∀ v', sputO s o.dst v' = s' v' := by intro _; (try dsimp only [sputO, sput, Nat.reduceBEq, cond_true, cond_false, beq_self_eq_true]); first | done | exact rfl) : Wl X ops Q (o :: r) s l := fun ac w hst => by
  obtain rfl : (fun v' => sputO s o.dst v') = s' := funext hs'
  have hw := gd_wanted hst.env hg
  have hdd : Hd oa w := by
    obtain ⟨pre, post, rfl, _⟩ := hseg.out
    intro p hp
    exact hst.mem.cls.now p.1 p.2.1 p.2.2 (mu_mem_of (by simp [hp]) hst.mem.nd)
  obtain ⟨v', w', oa', hr, ho', hup⟩ := append_zeros (ty := o.type) (kv := kv) (m := m) ht.out htn.out hei hown hdd (by simp only [maxLen]; omega) h63.2.2
  unfold wpList
  rw [if_pos hw]
  refine .inl ?_
  unfold Oper.wp
  have : (execOp ac.eval o).run X.P w = .ok (.value v') w' := by
    simp only [execOp, hop, resolve, invoke, builtin, Sem.run_bind, Sem.run_pure, Result.andThen_ok, List.map_toArray, List.map_cons, List.map_nil, hst.env.eval hx, hst.env.eval hy, hr]
  rw [this]
  exact h v' oa' ho' _ _ ⟨hst.env.put hd _, hup.mem hst.mem⟩
/-- A byte is put into a slice of the walk's own. -/
theorem wl_putB {x y : Operand} {t e n j k : Nat} {u : Value} {p : List Nat} {oa : Blks} {f : Blks → Blks} (hg : gd s ops o = some true) (hd : dOk X.N o.dst = true) (ho : o.op = .store t x y)
    (hx : val s x = some (.pointer (some ⟨elB u, elO u + j, none⟩))) (hy : val s y = some (.int .u8 (k : Int))) [hs : SZ X.P t 1] [hown : OwnB e u n p oa] [hseg : Seg l oa f]
    (h : ∀ oa', OwnB e u n (p.set j k) oa' → Wl X ops Q r s (f oa')) (hj : j < n := by first | (with_reducible assumption) | omega) (hk : k < 256 := by first | (with_reducible assumption) | omega) (hdn : o.dst = none := by rfl) : Wl X ops Q (o :: r) s l := fun ac w hst => by
  have hw := gd_wanted hst.env hg
  have hdd : Hd oa w := by
    obtain ⟨pre, post, rfl, _⟩ := hseg.out
    intro p hp
    exact hst.mem.cls.now p.1 p.2.1 p.2.2 (mu_mem_of (by simp [hp]) hst.mem.nd)
  have hxl := hown.own.len
  rcases hown.own.out with ⟨rfl, rfl, rfl⟩ | ⟨g, cap, cur, rfl, hnc, hcm, hcs, htake, rfl⟩
  · omega
  have hgb : w.heap[g]? = some (.cells cur e (0, 0)) := hdd (g, (cur, e)) (by simp)
  have hlt : 0 + j < cur.size := by omega
  have h1 : (Value.int .u8 (k : Int)).oneCell' = true := rfl
  have hrun := store_run (P := X.P) (ty := t) (off := 0 + j) (v := .int .u8 (k : Int)) (w := w) (.inr ⟨h1, hs.out, hlt⟩) hgb
  have e1 : splice cur (0 + j) (.int .u8 (k : Int)) = cur.setIfInBounds (0 + j) (.int .u8 (k : Int)) := rfl
  rw [e1] at hrun
  unfold wpList
  rw [if_pos hw]
  refine .inl ?_
  unfold Oper.wp
  have hx' := hst.env.eval hx
  have : (execOp ac.eval o).run X.P w = .ok .skip (w.setRow g (cur.setIfInBounds (0 + j) (.int .u8 (k : Int)))) := by
    simp only [execOp, ho, hx', hst.env.eval hy, Instr.storeAt, Instr.sureAddr, Sem.run_bind, Sem.run_pure, Result.andThen_ok, elB, elO, hrun]
  rw [this]
  have hs0 : sputO s o.dst undef = s := by rw [hdn]; rfl
  have hup : Upd w [(g, (cur, e))] (w.setRow g (cur.setIfInBounds (0 + j) (.int .u8 (k : Int)))) [(g, (cur.setIfInBounds (0 + j) (.int .u8 (k : Int)), e))] :=
    ⟨rfl, rfl, rfl, by simp, fun k' hk' hne => setRow_other w g k' _ (fun e => hne (by simp [keys, e])), by simp [keys], hd_one (setRow_heap w g cur _ e _ hgb), fun n hn => .inl (by simpa [keys] using hn)⟩
  refine (show Wl X ops Q r (sputO s o.dst undef) (f [(g, (cur.setIfInBounds (0 + j) (.int .u8 (k : Int)), e))]) from by
    rw [hs0]
    refine h _ ⟨⟨by rw [bl_len, List.length_set, hown.ok.len, Nat.mul_one], .inr ⟨g, cap, _, rfl, hnc, hcm, by simpa using hcs, ?_, rfl⟩⟩, hown.ok.set hk⟩
    rw [Nat.zero_add, Array.toList_setIfInBounds, List.take_set, htake, bl_set]) _ _ ⟨hst.env.put hd _, hup.mem hst.mem⟩
end
end Go.Proofs.YtkbgkobbadjpnaaDoor
namespace Go.Proofs.YtkbgkobbadjpnaaDoor
open Go.RowKit
set_option linter.unusedVariables false
set_option linter.unusedSimpArgs false
set_option maxRecDepth 100000
theorem ShG.perm {l m : List (Int × Nat)} (hp : m.Perm l) : ShG m ↔ ShG l := by
  have h1 := (hp.map (·.1)).nodup_iff
  unfold ShG
  rw [h1]
  constructor
  · rintro ⟨a, b⟩; exact ⟨fun q hq => a q (hp.mem_iff.2 hq), b⟩
  · rintro ⟨a, b⟩; exact ⟨fun q hq => a q (hp.mem_iff.1 hq), b⟩
theorem shErr_perm {l m : List (Int × Nat)} (hp : m.Perm l) (x : Int) : shErr m x = shErr l x := by
  unfold shErr
  rw [hp.length_eq, show ShG m = ShG l from propext (ShG.perm hp)]
theorem ShG.nat {l : List (Int × Nat)} (h : ShG l) : ∃ l', l = liI l' ∧ ShOk l' ∧ ∀ q ∈ l', 1 ≤ q.1 ∧ q.1 < 256 ∧ q.2 < SLn := by
  have key : l = liI (l.map fun q => (q.1.toNat, q.2)) := by
    unfold liI
    rw [List.map_map]
    conv => lhs; rw [← List.map_id l]
    refine List.map_congr_left fun q hq => ?_
    have := (h.1 q hq).1
    show q = _
    rw [Function.comp]
    exact Prod.ext (by show q.1 = ((q.1.toNat : Nat) : Int); omega) rfl
  have h3 : ∀ q ∈ l.map (fun q : Int × Nat => (q.1.toNat, q.2)), 1 ≤ q.1 ∧ q.1 < 256 ∧ q.2 < SLn := fun q hq => by
    obtain ⟨r, hr, rfl⟩ := List.mem_map.1 hq
    have := h.1 r hr
    dsimp only
    omega
  refine ⟨_, key, ⟨fun q hq => ?_, ?_⟩, h3⟩
  · have := h3 q hq
    have h2 : 256 < SLn := by decide +kernel
    omega
  · have h2 := h.2
    rw [key] at h2
    have e : (liI (l.map fun q => (q.1.toNat, q.2))).map (·.1) = ((l.map fun q => (q.1.toNat, q.2)).map (·.1)).map (fun k : Nat => (k : Int)) := by
      simp [liI, Function.comp_def]
    rw [e] at h2
    rw [List.nodup_iff_pairwise_ne] at h2 ⊢
    rw [List.pairwise_map] at h2
    exact h2.imp fun hne he => hne (by rw [he])
theorem shErr_zero {l : List (Int × Nat)} {x : Int} (h : shErr l x = 0) : l.length ≤ 20 ∧ 0 < l.length ∧ 0 ≤ x ∧ x ≤ 255 ∧ ShG l := by
  unfold shErr at h
  by_cases h1 : 20 < l.length
  · rw [if_pos h1] at h; cases h
  · rw [if_neg h1] at h
    by_cases h2 : l.length = 0 ∨ x < 0 ∨ x > 255 ∨ ¬ ShG l
    · rw [if_pos h2] at h; cases h
    · simp only [not_or, Classical.not_not] at h2
      obtain ⟨a, b, c, d⟩ := h2
      exact ⟨by omega, by omega, by omega, by omega, d⟩
theorem shErr_of {l : List (Int × Nat)} {x : Int} (h1 : l.length ≤ 20) (h2 : 0 < l.length) (h3 : 0 ≤ x) (h4 : x ≤ 255) (h5 : ShG l) : shErr l x = 0 := by
  unfold shErr
  rw [if_neg (by omega), if_neg]
  rintro (h | h | h | h)
  · omega
  · omega
  · omega
  · exact h h5
/-- Whatever is asked, it answers. -/
theorem at_any (w : World) {v : Value} {l : List (Int × Nat)} (h : Shs w v l) (hy : ∀ q ∈ l, q.2 < T256) (x : Int) : ∃ r, r < T256 ∧ Calls Tryd.prog 29 [v, .int .i64 x].toArray w (Ret (.tuple #[nu r, .int .i64 (shErr l x)]) w) := by
  by_cases hx : shErr l x = 0
  · obtain ⟨h1, h2, h3, h4, h5⟩ := shErr_zero hx
    obtain ⟨l', rfl, h6, h7⟩ := h5.nat
    obtain ⟨k, rfl⟩ := Int.eq_ofNat_of_zero_le h3
    refine ⟨shAt l' k, Nat.lt_trans (shAt_L _ _) SL_T, ?_⟩
    rw [hx]
    exact at_ok w h (fun q hq => ⟨(h7 q hq).2.1, Nat.lt_trans (h7 q hq).2.2 SL_T⟩) (by omega) hx
  · exact ⟨0, by decide, at_bad w h hy hx⟩
set_option maxHeartbeats 4000000 in
theorem clone_h (w : World) {v : Value} {m : Nat} {ls : List (Int × Nat)} (h : Cs w v m (recs shE ls)) (hl : ls.length = m) (hm : m ≤ 1048576) :
    Calls Tryd.prog 32 [v].toArray w (RetO (fun u => u) (fun u oa => OwnL 64 5 u m (recs shE ls) oa) w) := by
  have i1 := h.old
  have one := recs_one shE ls
  have hlen : (recs shE ls).length = m * 5 := by rw [recs_len, hl]
  obtain ⟨p, c, rfl, h1, h2, h3⟩ := h.ln.out
  cases p with
  | none =>
    have hm0 : m = 0 := by
      rcases Nat.eq_zero_or_pos m with h0 | h0
      · exact h0
      · obtain ⟨_, _, hh⟩ := h3 h0; cases hh
    have hd0 : ls = [] := List.eq_nil_of_length_eq_zero (by rw [hl, hm0])
    have E : ∀ w', (binOp .eql 60 (.slice none m c) (.slice none 0 0)).run Tryd.prog w' = .ok (.bool true) w' := fun w' => sl_nil (e := 64) (by kernel_rfl) w'
    clear h h3
    subst hm0; subst hd0
    refine fn_own (N := _) Tryd.func32 rfl Tryd.ntmps32 Tryd.results32 (by simp) ?_
    simp only [initS, Nat.reduceAdd, Nat.zero_add]
    repeat' (first | (refine wlS ?_) | (refine wlB ?_) | ((with_reducible refine sel_b_eql ?_); refine wv rfl rfl (rd_eqlG rfl rfl rfl (by with_reducible exact E)) ?_) | (refine wlE ?_) | (refine efSvao ?_; intro v oa ho) | (refine wl_skip rfl rfl ?_) | ((with_reducible refine wc_seq ?_); intro K hK) | (refine auC ?_) | (refine wc_cond rfl (fun hc => ?_) (fun hc => ?_)) | (refine wc_draw (by kernel_rfl) (by kernel_rfl) (by decide +kernel) ?_; intro w0 hw0 hm0; (try simp only [List.append_eq, List.cons_append, List.nil_append])) | (refine auP ?_) | ((refine auR ?_); clear hK K) | (refine auR ?_) | ((with_reducible refine hK _ _ ?_); clear hK K) | fail)
    first | refine end_ret (ResP.tmp rfl ResP.nil) ?_ | refine end_normal (ResP.tmp rfl ResP.nil) ?_
    (try dsimp only [tupV])
    exact ⟨_, _, rfl, OwnL.nil _ _, .nil⟩
  | some a =>
    have E : ∀ w', (binOp .eql 60 (.slice (some a) m c) (.slice none 0 0)).run Tryd.prog w' = .ok (.bool false) w' := fun w' => sl_nil (e := 64) (by kernel_rfl) w'
    clear h h3
    generalize recs shE ls = cs at *
    refine fn_own (N := _) Tryd.func32 rfl Tryd.ntmps32 Tryd.results32 (by simp) ?_
    simp only [initS, Nat.reduceAdd, Nat.zero_add]
    repeat' (first | (refine wlS ?_) | (refine wlB ?_) | ((with_reducible refine sel_b_eql ?_); refine wv rfl rfl (rd_eqlG rfl rfl rfl (by with_reducible exact E)) ?_) | (refine wlE ?_) | (refine efSvao ?_; intro v oa ho) | (refine wl_skip rfl rfl ?_) | ((with_reducible refine wc_seq ?_); intro K hK) | (refine auC ?_) | (refine wc_cond rfl (fun hc => ?_) (fun hc => ?_)) | (refine wc_draw (by kernel_rfl) (by kernel_rfl) (by decide +kernel) ?_; intro w0 hw0 hm0; (try simp only [List.append_eq, List.cons_append, List.nil_append])) | (refine auP ?_) | ((refine auR ?_); clear hK K) | (refine auR ?_) | ((with_reducible refine hK _ _ ?_); clear hK K) | fail)
    first | refine end_ret (ResP.tmp rfl ResP.nil) ?_ | refine end_normal (ResP.tmp rfl ResP.nil) ?_
    (try dsimp only [tupV])
    exact ⟨_, _, rfl, by simpa using ho, SubL.refl _⟩
end Go.Proofs.YtkbgkobbadjpnaaDoor
namespace Go.Proofs.YtkbgkobbadjpnaaDoor
open Go.RowKit
set_option linter.unusedVariables false
set_option linter.unusedSimpArgs false
section
variable {X : Cx} {s : Slots} {l : Blks} {o : Oper} {v : Value} {Q : Post} {ops : Array Oper} {r : List Oper}
/-- A new slice of n records. -/
theorem wl_makeR {t e k bytes n : Nat} {z : Array Value} {x y : Operand} {kx ky : IntKind} {s' : Value → Slots} {f : Blks → Blks} (hg : gd s ops o = some true) (hd : dOk X.N o.dst = true) (hop : o.op = .makeSlice t x y) (hx : val s x = some (.int kx (n : Int))) (hy : val s y = some (.int ky (n : Int)))
    [ht : UT X.P t (.slice e)] [hei : EI X.P e k bytes z] [hf : Snoc l f] (h : ∀ v' xs oa', OwnL e k v' n xs oa' → Wl X ops Q r (s' v') (f oa'))
    (hb : n * bytes ≤ 140737488355328 ∧ n ≤ 1152921504606846976 := by (refine ⟨?_, ?_⟩ <;> omega))
    (hs' : ∀ v', sputO s o.dst v' = s' v' := by intro _; (try dsimp only [sputO, sput, Nat.reduceBEq, cond_true, cond_false, beq_self_eq_true]); first | done | exact rfl) : Wl X ops Q (o :: r) s l := fun ac w hst => by
  obtain rfl : (fun v' => sputO s o.dst v') = s' := funext hs'
  have hw := gd_wanted hst.env hg
  obtain ⟨i, zv, hi, rfl, hby, hz, hzc, hzs⟩ := hei.out
  have hr := run_make (P := X.P) w t e i zv ht.out hi hz kx ky (n : Int) (n : Int) (by omega) (Int.le_refl _) (by rw [hby, ← Int.natCast_mul, Nat.mul_comm]; omega) (by omega)
  rw [Int.toNat_natCast] at hr
  have hsz : (madeCells zv.cells (n * i.size)).size = n * i.size := size_madeCells _ _
  unfold wpList
  rw [if_pos hw]
  refine .inl ?_
  unfold Oper.wp
  have : (execOp ac.eval o).run X.P w = .ok (.value (.slice (some ⟨w.heap.size, 0, none⟩) n n)) (w.alloc (.cells (madeCells zv.cells (n * i.size)) e)) := by
    simp only [execOp, hop, hst.env.eval hx, hst.env.eval hy, Sem.run_bind, hr, Result.andThen_ok, Sem.run_pure]
  rw [this]
  haveI : Seg l [] f := ⟨l, [], by simp, fun o => by rw [hf.out, List.append_nil]⟩
  refine h _ (madeCells zv.cells (n * i.size)).toList [(w.heap.size, (madeCells zv.cells (n * i.size), e))] ⟨by rw [Array.length_toList, hsz], .inr ⟨w.heap.size, n, madeCells zv.cells (n * i.size), rfl, Nat.le_refl _, ?_, hsz, ?_, rfl⟩⟩ _ _ ⟨hst.env.put hd _, (upd_new (w := w) (w1 := w) rfl rfl rfl rfl [] _ e).mem hst.mem⟩
  · simp only [maxLen]; omega
  · rw [List.take_of_length_le (by rw [Array.length_toList, hsz]; exact Nat.le_refl _)]
/-- A record is put into a slice of the walk's own. -/
theorem wl_putR {x y : Operand} {e k n j : Nat} {u : Value} {xs cs xs' : List Value} {oa : Blks} {f : Blks → Blks} (hg : gd s ops o = some true) (ho : o.op = .store e x y)
    (hx : val s x = some (.pointer (some ⟨elB u, elO u + j, none⟩))) (hy : val s y = some (.agg cs.toArray)) [hs : SZ X.P e k] [hown : OwnL e k u n xs oa] [hseg : Seg l oa f]
    (h : ∀ oa', OwnL e k u n xs' oa' → Wl X ops Q r s (f oa')) (hj : j + k ≤ n * k := by first | (with_reducible assumption) | omega) (h1 : cs.all (·.oneCell') = true := by with_reducible assumption) (hk : cs.length = k := by first | (with_reducible assumption) | rfl)
    (hq : xs.take j ++ (cs ++ xs.drop (j + k)) = xs' := by first | (with_reducible assumption) | rfl) (hk0 : k ≠ 0 := by decide) (hdn : o.dst = none := by rfl) : Wl X ops Q (o :: r) s l := fun ac w hst => by
  subst hq
  have hw := gd_wanted hst.env hg
  have hdd : Hd oa w := by
    obtain ⟨pre, post, rfl, _⟩ := hseg.out
    intro p hp
    exact hst.mem.cls.now p.1 p.2.1 p.2.2 (mu_mem_of (by simp [hp]) hst.mem.nd)
  have hxl := hown.len
  rcases hown.out with ⟨rfl, rfl, rfl⟩ | ⟨g, cap, cur, rfl, hnc, hcm, hcs, htake, rfl⟩
  · omega
  have hgb : w.heap[g]? = some (.cells cur e (0, 0)) := hdd (g, (cur, e)) (by simp)
  have hle : n * k ≤ cap * k := Nat.mul_le_mul_right _ hnc
  have hrun := run_storeAt_mid (P := X.P) w g (0 + j) e cs.toArray (fun i hi => by
    constructor
    · rw [cell_of_row w g (0 + j + i) cur e _ hgb]
      have : 0 + j + i < cur.size := by simp at hi; omega
      simp only [Nat.zero_add] at this ⊢
      simp [this]
    · exact frozen_of_row w g (0 + j + i) cur e hgb) (by rw [hs.out]; simp [hk]) (by simpa using h1)
  rw [setCells_row g e _ (0 + j) cur w hgb (by simp; omega)] at hrun
  unfold wpList
  rw [if_pos hw]
  refine .inl ?_
  unfold Oper.wp
  have hx' := hst.env.eval hx
  have : (execOp ac.eval o).run X.P w = .ok .skip (w.setRow g (putR cur.toList (0 + j) cs).toArray) := by
    simp only [execOp, ho, hx', hst.env.eval hy, Sem.run_bind, elB, elO, hrun, Result.andThen_ok, Sem.run_pure]
  rw [this]
  have hs0 : sputO s o.dst undef = s := by rw [hdn]; rfl
  have hlen : (putR cur.toList (0 + j) cs).length = cap * k := by
    unfold putR
    simp only [List.length_append, List.length_take, List.length_drop, Array.length_toList, hcs, hk]
    omega
  have hup : Upd w [(g, (cur, e))] (w.setRow g (putR cur.toList (0 + j) cs).toArray) [(g, ((putR cur.toList (0 + j) cs).toArray, e))] :=
    ⟨rfl, rfl, rfl, by simp, fun k' hk' hne => setRow_other w g k' _ (fun e => hne (by simp [keys, e])), by simp [keys], hd_one (setRow_heap w g cur _ e _ hgb), fun n hn => .inl (by simpa [keys] using hn)⟩
  have htk : (putR cur.toList (0 + j) cs).take (n * k) = xs.take j ++ (cs ++ xs.drop (j + k)) := by
    have hA : (List.take j cur.toList).length = j := by rw [List.length_take, Array.length_toList]; omega
    have hB : List.take (n * k - j) cs = cs := List.take_of_length_le (by omega)
    rw [← htake]
    unfold putR
    simp only [Nat.zero_add]
    rw [List.append_assoc, List.take_append, List.take_append, hA, hB, List.take_take, List.take_take, List.drop_take, hk, Nat.min_eq_right (by omega), Nat.min_eq_left (by omega)]
    congr 3
    omega
  have hd0 : dOk X.N o.dst = true := by rw [hdn]; rfl
  refine (show Wl X ops Q r (sputO s o.dst undef) (f [(g, ((putR cur.toList (0 + j) cs).toArray, e))]) from by
    rw [hs0]
    refine h _ ⟨?_, .inr ⟨g, cap, (putR cur.toList (0 + j) cs).toArray, rfl, hnc, hcm, (by show (putR cur.toList (0 + j) cs).length = cap * k; exact hlen), htk, rfl⟩⟩
    rw [← htk, List.length_take, hlen]
    exact Nat.min_eq_left hle) _ _ ⟨hst.env.put hd0 _, hup.mem hst.mem⟩
/-- A new slice of one record. -/
theorem wl_bslice1 {t e k bytes : Nat} {z c : Array Value} {ps : Array (Nat × Operand)} {f : Blks → Blks} {s' : Value → Slots}
    (hg : gd s ops o = some true) (hd : dOk X.N o.dst = true) (hop : o.op = .buildSlice t 1 ps) (hx : valsP s ps.toList = some [(0, .agg c)]) [ht : UT X.P t (.slice e)] [hei : EI X.P e k bytes z] [hf : Snoc l f]
    (h : ∀ v' oa', OwnL e k v' 1 c.toList oa' → Wl X ops Q r (s' v') (f oa')) (hc : c.size = k := by first | (with_reducible assumption) | exact Cells.size) (hk : k ≤ 16777216 := by decide)
    (hs' : ∀ v', sputO s o.dst v' = s' v' := by intro _; (try dsimp only [sputO, sput, Nat.reduceBEq, cond_true, cond_false, beq_self_eq_true]); first | done | exact rfl) : Wl X ops Q (o :: r) s l :=
  wl_bslice hg hd hop hx h rfl (by simp [Value.cells, hc]) rfl ⟨by omega, by decide⟩ (by simp [Value.cells]) hs'
end
end Go.Proofs.YtkbgkobbadjpnaaDoor
