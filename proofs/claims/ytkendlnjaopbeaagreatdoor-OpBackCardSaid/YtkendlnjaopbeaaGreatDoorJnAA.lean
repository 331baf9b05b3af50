/- Structs as rows of segments. Bytes: copy, make, append of noughts, stores into a slice of the walk's own. What hash.Pad answers, in plain terms. What the package hash computes, in plain terms: words of 32 bits as integers, just as the code takes them together. Small laws of numbers that wrap. The package hash, walked: turning, words. Slices of bytes that come in as arguments; the builtin min; and, or, xor of int. -/
import Derived.Test.YtkendlnjaopbeaaGreatDoorOwnB
import Derived.Laws.CopyRow
import Derived.Laws.IdiomCopy
import Derived.Laws.MakeOwn
import Derived.Lib.AppendZerosOnto
import Derived.Test.YtkendlnjaopbeaaGreatDoorLwOps
import Derived.Test.YtkendlnjaopbeaaGreatDoorLwH
import Derived.Test.YtkendlnjaopbeaaGreatDoorTyS
import Derived.Test.YtkendlnjaopbeaaGreatDoorLwDraw
import Derived.ChangeSlices
import Derived.Below
import Derived.WideShapes
namespace Go.Proofs.YtkendlnjaopbeaaGreatDoor
open Go.RowKit
set_option linter.unusedVariables false
set_option linter.unusedSimpArgs false
/-- Segments: how many cells, and which. -/
abbrev Sg := List (Nat × Array Value)
def rwL (g : Sg) : List Value := (g.map fun s => s.2.toList).flatten
def rwA (g : Sg) : Array Value := (rwL g).toArray
def sumG : Sg → Nat
  | [] => 0
  | s :: r => s.1 + sumG r
/-- A segment of m cells. -/
class SegL (A : Array Value) (m : Nat) : Prop where
  size : A.size = m
  one : A.all (·.oneCell') = true
class SgOk (g : Sg) : Prop where
  out : ∀ s ∈ g, s.2.size = s.1 ∧ s.2.all (·.oneCell') = true
instance SgOk.nil : SgOk [] := ⟨fun _ h => by cases h⟩
instance SgOk.cons {A : Array Value} {m : Nat} {r : Sg} [h : SegL A m] [h' : SgOk r] : SgOk ((m, A) :: r) := ⟨fun s hs => by
  rcases List.mem_cons.1 hs with rfl | hs
  · exact ⟨h.size, h.one⟩
  · exact h'.out s hs⟩
theorem SgOk.head {s : Nat × Array Value} {r : Sg} (h : SgOk (s :: r)) : s.2.size = s.1 ∧ s.2.all (·.oneCell') = true := h.out s (by simp)
theorem SgOk.tail {s : Nat × Array Value} {r : Sg} (h : SgOk (s :: r)) : SgOk r := ⟨fun q hq => h.out q (by simp [hq])⟩
theorem rwL_cons (s : Nat × Array Value) (r : Sg) : rwL (s :: r) = s.2.toList ++ rwL r := rfl
theorem rwL_len : ∀ {g : Sg}, SgOk g → (rwL g).length = sumG g
  | [], _ => rfl
  | s :: r, h => by rw [rwL_cons, List.length_append, Array.length_toList, h.head.1, rwL_len h.tail]; rfl
theorem rw_size {g : Sg} (h : SgOk g) : (rwA g).size = sumG g := by rw [rwA, List.size_toArray, rwL_len h]
theorem rwL_one : ∀ {g : Sg}, SgOk g → (rwL g).all (·.oneCell') = true
  | [], _ => rfl
  | s :: r, h => by
    rw [rwL_cons, List.all_append, rwL_one h.tail, Bool.and_true]
    have := h.head.2
    rwa [← Array.all_toList] at this
theorem rw_one {g : Sg} (h : SgOk g) : (rwA g).all (·.oneCell') = true := by rw [rwA, List.all_toArray]; exact rwL_one h
def atL : Sg → Nat → Nat → Option (Array Value)
  | [], _, _ => none
  | s :: r, off, k => bif Nat.beq off 0 && Nat.beq k s.1 then some s.2 else bif Nat.ble s.1 off then atL r (off - s.1) k else none
def putG : Sg → Nat → Nat → Array Value → Option Sg
  | [], _, _, _ => none
  | s :: r, off, k, B => bif Nat.beq off 0 && Nat.beq k s.1 then some ((s.1, B) :: r) else bif Nat.ble s.1 off then (match putG r (off - s.1) k B with
    | some r' => some (s :: r')
    | none => none) else none
theorem atL_spec : ∀ {g : Sg} {off k : Nat} {B : Array Value}, SgOk g → atL g off k = some B → ((rwL g).drop off).take k = B.toList ∧ B.size = k ∧ off + k ≤ (rwL g).length
  | [], _, _, _, _, h => by cases h
  | s :: r, off, k, B, hok, h => by
    unfold atL at h
    have hs := hok.head.1
    by_cases h1 : (Nat.beq off 0 && Nat.beq k s.1) = true
    · rw [h1] at h
      simp only [cond_true, Option.some.injEq] at h
      subst h
      simp only [Bool.and_eq_true, Nat.beq_eq] at h1
      obtain ⟨rfl, rfl⟩ := h1
      refine ⟨?_, hs, by rw [rwL_cons, List.length_append, Array.length_toList, hs]; omega⟩
      rw [List.drop_zero, rwL_cons, List.take_append_of_le_length (by rw [Array.length_toList, hs]; exact Nat.le_refl _), List.take_of_length_le (by rw [Array.length_toList, hs]; exact Nat.le_refl _)]
    · rw [eq_false_of_ne_true h1, cond_false] at h
      by_cases h2 : Nat.ble s.1 off = true
      · rw [h2, cond_true] at h
        have hle := Nat.le_of_ble_eq_true h2
        obtain ⟨e1, e2, e3⟩ := atL_spec hok.tail h
        refine ⟨?_, e2, by rw [rwL_cons, List.length_append, Array.length_toList, hs]; omega⟩
        rw [rwL_cons, List.drop_append, Array.length_toList, hs, List.drop_of_length_le (by rw [Array.length_toList, hs]; exact hle), List.nil_append]
        exact e1
      · rw [eq_false_of_ne_true h2, cond_false] at h; cases h
theorem putG_spec : ∀ {g g' : Sg} {off k : Nat} {B : Array Value}, SgOk g → B.size = k → B.all (·.oneCell') = true → putG g off k B = some g' → putR (rwL g) off B.toList = rwL g' ∧ SgOk g' ∧ sumG g' = sumG g ∧ off + k ≤ sumG g
  | [], _, _, _, _, _, _, _, h => by cases h
  | s :: r, g', off, k, B, hok, hk, h1, h => by
    unfold putG at h
    have hs := hok.head.1
    by_cases c1 : (Nat.beq off 0 && Nat.beq k s.1) = true
    · rw [c1] at h
      simp only [cond_true, Option.some.injEq] at h
      subst h
      simp only [Bool.and_eq_true, Nat.beq_eq] at c1
      obtain ⟨rfl, rfl⟩ := c1
      refine ⟨?_, ⟨fun q hq => ?_⟩, rfl, by simp only [sumG]; omega⟩
      · unfold putR
        rw [rwL_cons, rwL_cons, List.take_zero, List.nil_append, Nat.zero_add, Array.length_toList, hk, List.drop_append, Array.length_toList, hs, List.drop_of_length_le (by rw [Array.length_toList, hs]; exact Nat.le_refl _), Nat.sub_self, List.drop_zero, List.nil_append]
      · rcases List.mem_cons.1 hq with rfl | hq
        · exact ⟨hk, h1⟩
        · exact hok.tail.out q hq
    · rw [eq_false_of_ne_true c1, cond_false] at h
      by_cases c2 : Nat.ble s.1 off = true
      · rw [c2, cond_true] at h
        have hle := Nat.le_of_ble_eq_true c2
        cases hp : putG r (off - s.1) k B with
        | none => rw [hp] at h; cases h
        | some r' =>
          rw [hp] at h
          simp only [Option.some.injEq] at h
          subst h
          obtain ⟨e1, e2, e3, e4⟩ := putG_spec hok.tail hk h1 hp
          refine ⟨?_, ⟨fun q hq => ?_⟩, by simp only [sumG, e3], by simp only [sumG]; omega⟩
          · rw [rwL_cons, rwL_cons, ← e1]
            unfold putR
            have e : s.2.toList.length = s.1 := by rw [Array.length_toList, hs]
            rw [List.take_append, e, List.take_of_length_le (by rw [e]; exact hle), List.drop_append, e, List.drop_of_length_le (by rw [e]; omega), List.nil_append, show off + B.toList.length - s.1 = off - s.1 + B.toList.length by omega, List.append_assoc, List.append_assoc, List.append_assoc]
          · rcases List.mem_cons.1 hq with rfl | hq
            · exact hok.head
            · exact e2.out q hq
      · rw [eq_false_of_ne_true c2, cond_false] at h; cases h
/-- A type's nought, in segments. -/
class ZG (P : Program) (t : Nat) (g : outParam Sg) : Prop where
  out : (P.info? t).bind (·.zero) = some (.agg (rwA g))
  ok : SgOk g
def bys (l : List Nat) : Array Value := (bl l).toArray
def w32 (l : List Nat) : Array Value := (l.map fun k : Nat => Value.int .u32 (k : Int)).toArray
theorem seg_bys {n : Nat} {l : List Nat} (h : l.length = n) : SegL (bys l) n := ⟨by simp [bys, bl_len, h], by simp [bys, bl, Value.oneCell']⟩
instance {l : List Nat} {i k : Nat} : PutC (bys l) i (.int .u8 (k : Int)) (bys (l.set i k)) := ⟨by simp [bys, putC, bl]⟩
theorem bys_get {l : List Nat} {i : Nat} (h : i < l.length) : (bys l)[i]? = some (.int .u8 ((l.getD i 0 : Nat) : Int)) := by simp [bys, bl, h, List.getD]
/-- Where a block stands. -/
class BlkAt (l : Blks) (n : Nat) (x : outParam (Array Value × TypeId)) : Prop where
  out : (n, x) ∈ l
instance {n : Nat} {x : Array Value × TypeId} {l : Blks} : BlkAt ((n, x) :: l) n x := ⟨List.mem_cons_self⟩
instance (priority := 900) {n : Nat} {x : Array Value × TypeId} {p : Nat × (Array Value × TypeId)} {l : Blks} [h : BlkAt l n x] : BlkAt (p :: l) n x := ⟨List.mem_cons_of_mem _ h.out⟩
instance (priority := 900) {n : Nat} {x : Array Value × TypeId} {ob l : Blks} [h : BlkAt l n x] : BlkAt (ob ++ l) n x := ⟨List.mem_append_right _ h.out⟩
class BLc (n : Nat) (p : List Nat) : Prop where
  out : BL n p
  small : n ≤ 1099511627776
instance {X : Cx} {l : Blks} {n k : Nat} {p : List Nat} {e : Nat} [h : BlkAt l n (bys p, e)] [h' : BLc k p] [ht : KD X.P e true] : VwB X l (.slice (some ⟨n, 0, none⟩) k k) k p := ⟨fun w hm => by
  have hg := (hm.cls.now n (bys p) e (mu_mem_of h.out hm.nd)).trans (congrArg some (toObj_cells ht.tb))
  refine ⟨⟨⟨_, _, rfl, Nat.le_refl _, by have := h'.small; simp only [maxLen]; omega, fun _ => ⟨n, 0, rfl⟩⟩, fun j u hj => ⟨n, 0, k, rfl, ?_⟩⟩, h'.out⟩
  rw [cell_of_row w n (0 + j) (bys p) e _ hg, Nat.zero_add]
  simpa [bys] using hj⟩
theorem seg_w32 {n : Nat} {l : List Nat} (h : l.length = n) : SegL (w32 l) n := ⟨by simp [w32, h], by simp [w32, Value.oneCell']⟩
instance {k : IntKind} {z : Int} : SegL #[.int k z] 1 := ⟨rfl, by simp [Value.oneCell']⟩
instance {b : Bool} : SegL #[.bool b] 1 := ⟨rfl, by simp [Value.oneCell']⟩
theorem seg_rw {g : Sg} [h : SgOk g] {k : Nat} (hk : sumG g = k) : SegL (rwA g) k := ⟨by rw [rw_size h, hk], rw_one h⟩
section
variable {X : Cx} {s : Slots} {l : Blks} {o : Oper} {v : Value} {Q : Post} {ops : Array Oper} {r : List Oper}
theorem ld_sg {t b off k e : Nat} {g : Sg} {B : Array Value} [hu : KD X.P t true] [hs : SZ X.P t k] [hok : SgOk g] (hh : Has X l b (rwA g, e) := by first | (with_reducible assumption) | (refine Has.inn ?_; repeat (first | exact Inn.here | refine Inn.there ?_))) (ha : atL g off k = some B := by rfl) : Ld X l t b off (.agg B) := by
  obtain ⟨h1, h2, h3⟩ := atL_spec hok ha
  have := ld_row (X := X) (l := l) (t := t) (b := b) (off := off) (k := k) (c := rwA g) (cs := B.toList) hh (by rw [rwA]; exact h1) (by rw [Array.length_toList, h2])
  rwa [Array.toArray_toList] at this
theorem ld_sg1 {t b off e : Nat} {g : Sg} [hu : KD X.P t false] [hok : SgOk g] (hh : Has X l b (rwA g, e) := by first | (with_reducible assumption) | (refine Has.inn ?_; repeat (first | exact Inn.here | refine Inn.there ?_))) (ha : atL g off 1 = some #[v] := by rfl) : Ld X l t b off v := by
  obtain ⟨h1, h2, h3⟩ := atL_spec hok ha
  refine ld_cell (c := rwA g) hh ?_
  have := congrArg (·[0]?) h1
  simpa [rwA] using this
theorem ld_wholeG {t b k e : Nat} {g : Sg} [hu : KD X.P t true] [hs : SZ X.P t k] [hok : SgOk g] (hh : Has X l b (rwA g, e) := by first | (with_reducible assumption) | (refine Has.inn ?_; repeat (first | exact Inn.here | refine Inn.there ?_))) (hk : sumG g = k := by rfl) : Ld X l t b 0 (.agg (rwA g)) :=
  ld_whole hh (by rw [rw_size hok, hk])
theorem sv_sg {t k off b e : Nat} {x y : Operand} {g g' : Sg} {B : Array Value} {l' : Blks} (ho : o.op = .store t x y) (hx : val s x = some (.pointer (some ⟨b, off, none⟩))) (hy : val s y = some (.agg B))
    [hs : SZ X.P t k] [hok : SgOk g] [hB : SegL B k] (ha : At l b (rwA g, e) (rwA g', e) l' := by repeat (first | exact At.here | apply At.there)) (hp : putG g off k B = some g' := by rfl) (htb : Nat.blt e BIG = true := by first | rfl | assumption) : Sv X s l o l' := by
  obtain ⟨h1, h2, h3, h4⟩ := putG_spec hok hB.size hB.one hp
  have hB' : Value.agg B = .agg B.toList.toArray := by rw [Array.toArray_toList]
  exact sv_row (cs := B.toList) (c := rwA g) (c' := rwL g') ho hx (by rw [hy, hB']) (hk := by rw [Array.length_toList, hB.size]) (h1 := by have := hB.one; rwa [← Array.all_toList] at this) (hc := by rw [rwA, ← h1]) ha (hlt := by rw [Array.length_toList, hB.size, rw_size hok]; exact h4)
theorem sv_sg1 {t off b e : Nat} {x y : Operand} {g g' : Sg} {l' : Blks} (ho : o.op = .store t x y) (hx : val s x = some (.pointer (some ⟨b, off, none⟩))) (hy : val s y = some v)
    [hs : SZ X.P t 1] [hok : SgOk g] [hB : SegL #[v] 1] (ha : At l b (rwA g, e) (rwA g', e) l' := by repeat (first | exact At.here | apply At.there)) (hp : putG g off 1 #[v] = some g' := by rfl) (htb : Nat.blt e BIG = true := by first | rfl | assumption) : Sv X s l o l' := by
  obtain ⟨h1, h2, h3, h4⟩ := putG_spec hok hB.size hB.one hp
  have hv : v.oneCell' = true := by have := hB.one; simpa using this
  have hlt : off < (rwA g).size := by rw [rw_size hok]; omega
  refine sv_cell (c := rwA g) (c' := rwA g') ho hx hy hv ha (hc := ?_) (hlt := hlt)
  unfold putC rwA
  rw [← h1]
  unfold putR
  have hlt' : off < (rwL g).length := by rw [rwL_len hok]; omega
  simp only [List.setIfInBounds_toArray, List.length_cons, List.length_nil]
  congr 1
  rw [List.set_eq_take_append_cons_drop, if_pos hlt']
  simp
theorem sv_wholeG {t k b e : Nat} {x y : Operand} {g g' : Sg} {l' : Blks} (ho : o.op = .store t x y) (hx : val s x = some (.pointer (some ⟨b, 0, none⟩))) (hy : val s y = some (.agg (rwA g')))
    [hs : SZ X.P t k] [hok : SgOk g] [hok' : SgOk g'] (ha : At l b (rwA g, e) (rwA g', e) l' := by repeat (first | exact At.here | apply At.there)) (hk : sumG g' = k := by rfl) (hk' : sumG g = k := by rfl) (htb : Nat.blt e BIG = true := by first | rfl | assumption) : Sv X s l o l' :=
  sv_whole ho hx hy (hk := by rw [rw_size hok', hk]) (h1 := rw_one hok') ha (hlt := by rw [rw_size hok, rw_size hok', hk, hk'])
theorem mk_allocG {t : Nat} {g : Sg} (ho : o.op = .alloc t) [hz : ZG X.P t g] : Mk X s o (rwA g) t ptr := by
  haveI : ZR X.P t (.agg (rwA g)) := ⟨hz.out⟩
  exact mk_alloc ho rfl
theorem rd_fieldG {t f fo ty k : Nat} {x : Operand} {g : Sg} {B : Array Value} (ho : o.op = .field t x f) (hx : val s x = some (.agg (rwA g))) [hf : FD X.P t f fo ty k] [hu : KD X.P ty true] [hs : SZ X.P ty k] [hok : SgOk g] (ha : atL g fo k = some B := by rfl) : RdV X s l o (.agg B) := by
  obtain ⟨h1, h2, h3⟩ := atL_spec hok ha
  refine rd_field ho hx fun w => ?_
  have := part_row (P := X.P) (t := ty) (off := fo) (cs := rwA g) (cs' := B.toList) (by rw [rwA]; exact h1) w
  rwa [Array.toArray_toList] at this
theorem rd_fieldG1 {t f fo ty k : Nat} {x : Operand} {g : Sg} (ho : o.op = .field t x f) (hx : val s x = some (.agg (rwA g))) [hf : FD X.P t f fo ty k] [hu : KD X.P ty false] [hok : SgOk g] (ha : atL g fo 1 = some #[v] := by rfl) : RdV X s l o v := by
  obtain ⟨h1, h2, h3⟩ := atL_spec hok ha
  refine rd_field ho hx fun w => part_cell ?_ w
  have := congrArg (·[0]?) h1
  simpa [rwA] using this
/-- Fields put into a nought. -/
def putsG (pl : List (Nat × Nat)) : Sg → List (Nat × Value) → Option Sg
  | g, [] => some g
  | g, (i, v) :: r => match pl[i]? with
    | none => none
    | some q => bif v.cells.size == q.2 then (match putG g q.1 q.2 v.cells with
      | some g' => putsG pl g' r
      | none => none) else none
theorem putsG_spec {pl : List (Nat × Nat)} : ∀ {vs : List (Nat × Value)} {g g' : Sg}, SgOk g → (∀ p ∈ vs, p.2.cells.all (·.oneCell') = true) → putsG pl g vs = some g' → fillC (fun i => pl[i]?) (rwL g) vs = some (rwL g') ∧ SgOk g'
  | [], g, g', hok, _, h => by cases h; exact ⟨rfl, hok⟩
  | (i, v) :: r, g, g', hok, h1, h => by
    unfold putsG at h
    unfold fillC
    cases hp : pl[i]? with
    | none => simp [hp] at h
    | some q =>
      simp only [hp] at h ⊢
      by_cases c : (v.cells.size == q.2) = true
      · rw [c, cond_true] at h
        cases hg : putG g q.1 q.2 v.cells with
        | none => rw [hg] at h; cases h
        | some g1 =>
          rw [hg] at h
          simp only at h
          obtain ⟨e1, e2, e3, e4⟩ := putG_spec hok (by simpa using c) (h1 (i, v) (by simp)) hg
          have hb : Nat.ble (q.1 + q.2) (rwL g).length = true := Nat.ble_eq_true_of_le (by rw [rwL_len hok]; exact e4)
          rw [c, hb, Bool.and_self, cond_true, e1]
          exact putsG_spec e2 (fun p hp => h1 p (by simp [hp])) h
      · rw [eq_false_of_ne_true c, cond_false] at h; cases h
theorem rd_buildG {t : Nat} {ps : Array (Nat × Operand)} {vs : List (Nat × Value)} {pl : List (Nat × Nat)} {g0 g : Sg} (ho : o.op = .build t ps) (hx : valsP s ps.toList = some vs) [ht : SP X.P t pl] [hz : ZG X.P t g0]
    (hc : putsG pl g0 vs = some g) (h1 : ∀ p ∈ vs, p.2.cells.all (·.oneCell') = true) : RdV X s l o (.agg (rwA g)) := by
  haveI : ZR X.P t (.agg (rwA g0)) := ⟨hz.out⟩
  exact rd_buildS ho hx (by rw [rwA]; exact (putsG_spec hz.ok h1 hc).1)
/-- One cell of a segment. -/
theorem ld_sgC {t b off e p m j : Nat} {g : Sg} {A : Array Value} [hu : KD X.P t false] [hok : SgOk g] (hh : Has X l b (rwA g, e) := by first | (with_reducible assumption) | (refine Has.inn ?_; repeat (first | exact Inn.here | refine Inn.there ?_))) (ha : atL g p m = some A := by rfl) (ho : p + j = off := by first | (with_reducible assumption) | rfl | omega) (hv : A[j]? = some v := by first | (with_reducible assumption)) : Ld X l t b off v := by
  obtain ⟨h1, h2, h3⟩ := atL_spec hok ha
  subst ho
  have hj : j < m := by rw [← h2]; exact (Array.getElem?_eq_some_iff.1 hv).1
  refine ld_cell (c := rwA g) hh ?_
  have := congrArg (·[j]?) h1
  simp only [List.getElem?_take_of_lt hj, List.getElem?_drop] at this
  rw [rwA, List.getElem?_toArray, this]
  simpa using hv
theorem sv_sgC {t off b e p m j : Nat} {x y : Operand} {g g' : Sg} {A A' : Array Value} {l' : Blks} (ho : o.op = .store t x y) (hx : val s x = some (.pointer (some ⟨b, off, none⟩))) (hy : val s y = some v)
    [hs : SZ X.P t 1] [hok : SgOk g] (h1 : v.oneCell' = true) (hat : At l b (rwA g, e) (rwA g', e) l' := by repeat (first | exact At.here | apply At.there)) (ha : atL g p m = some A := by rfl) (hof : p + j = off := by first | (with_reducible assumption) | rfl | omega) (hc : putC A j v = A' := by first | (with_reducible assumption) | exact PutC.out) (hj : j < m := by first | (with_reducible assumption) | omega)
    (hp : putG g p m A' = some g' := by rfl) (htb : Nat.blt e BIG = true := by first | rfl | assumption) : Sv X s l o l' := by
  obtain ⟨e1, e2, e3⟩ := atL_spec hok ha
  subst hof; subst hc
  have hA : A.all (·.oneCell') = true := by
    rw [← Array.all_toList, ← e1, List.all_eq_true]
    intro q hq
    exact (List.all_eq_true.1 (rwL_one hok)) q (List.mem_of_mem_drop (List.mem_of_mem_take hq))
  have hB : SegL (putC A j v) m := ⟨by simp [putC, e2], by
    rw [← Array.all_toList, List.all_eq_true]
    intro q hq
    simp only [putC, Array.toList_setIfInBounds] at hq
    rcases List.mem_or_eq_of_mem_set hq with h | h
    · exact (List.all_eq_true.1 (by rw [Array.all_toList]; exact hA)) q h
    · rw [h]; exact h1⟩
  obtain ⟨f1, f2, f3, f4⟩ := putG_spec hok hB.size hB.one hp
  have hlen : A.toList.length = m := by rw [Array.length_toList, e2]
  refine sv_cell (c := rwA g) (c' := rwA g') ho hx hy h1 hat (hc := ?_) (hlt := by rw [rw_size hok]; omega)
  unfold putC rwA
  rw [← f1]
  unfold putR
  simp only [List.setIfInBounds_toArray]
  congr 1
  have hpl : p + j < (rwL g).length := by omega
  apply List.ext_getElem?
  intro i
  have hAi : ∀ k, k < m → A.toList[k]? = (rwL g)[p + k]? := fun k hk => by rw [← e1, List.getElem?_take_of_lt hk, List.getElem?_drop]
  have hlA : (A.toList.set j v).length = m := by rw [List.length_set, hlen]
  have htk : ((rwL g).take p).length = p := by rw [List.length_take]; omega
  simp only [putC, Array.toList_setIfInBounds]
  rw [hlA, List.getElem?_set]
  by_cases c1 : i < p
  · rw [if_neg (by omega), List.append_assoc, List.getElem?_append_left (by omega), List.getElem?_take_of_lt c1]
  · by_cases c2 : i < p + m
    · rw [List.append_assoc, List.getElem?_append_right (by omega), htk, List.getElem?_append_left (by omega), List.getElem?_set, hlen]
      by_cases c3 : j = i - p
      · rw [if_pos (by omega), if_pos c3, if_pos hpl, if_pos hj]
      · rw [if_neg (by omega), if_neg c3, hAi _ (by omega)]; congr 1; omega
    · rw [if_neg (by omega), List.append_assoc, List.getElem?_append_right (by omega), htk, List.getElem?_append_right (by omega), hlA, List.getElem?_drop]; congr 1; omega
end
end Go.Proofs.YtkendlnjaopbeaaGreatDoor
namespace Go.Proofs.YtkendlnjaopbeaaGreatDoor
open Go.RowKit
set_option linter.unusedVariables false
set_option linter.unusedSimpArgs false
theorem At.ex2 {n : Nat} {x : Array Value × TypeId} (y : Array Value × TypeId) {l l' : Blks} (h : At l n x y l') : ∃ pre post, l = pre ++ ((n, x) :: post) ∧ l' = pre ++ ((n, y) :: post) := by
  induction h with
  | here => exact ⟨[], _, rfl, rfl⟩
  | there _ ih =>
    obtain ⟨pre, post, h1, h2⟩ := ih
    exact ⟨_ :: pre, post, by rw [h1]; rfl, by rw [h2]; rfl⟩
theorem At.same {n : Nat} {x : Array Value × TypeId} {l l' : Blks} (h : At l n x x l') : l' = l := by
  obtain ⟨pre, post, h1, h2⟩ := At.ex2 x h
  rw [h1, h2]
theorem made_one (z : Value) (n : Nat) : (madeCells #[z] n).toList = List.replicate n z := by
  apply List.ext_getElem
  · simp [size_madeCells]
  · intro i h1 h2
    simp [madeCells, Nat.mod_one]
theorem zeros_one (z : Value) (n : Nat) : (Builtin.zeroCells #[z] n).toList = List.replicate n z := by
  apply List.ext_getElem
  · simp [Builtin.zeroCells]
  · intro i h1 h2
    simp [Builtin.zeroCells, Nat.mod_one]
theorem bl_rep (n k : Nat) : bl (List.replicate n k) = List.replicate n (.int .u8 (k : Int)) := by simp [bl]
section
variable {X : Cx} {s : Slots} {l : Blks} {o : Oper} {v : Value} {Q : Post} {ops : Array Oper} {r : List Oper}
theorem putR_bys (q p : List Nat) (off : Nat) : ((bys q).toList.take off ++ bl p ++ (bys q).toList.drop (off + (bl p).length)).toArray = bys (q.take off ++ (p ++ q.drop (off + p.length))) := by
  simp [bys, bl]
/-- Bytes are copied into a block that is known. -/
theorem wl_copyB {x y : Operand} {t t' e te n cap b off m : Nat} {u : Value} {p q q' : List Nat} {l' : Blks} {s' : Slots} (hg : gd s ops o = some true) (hd : dOk X.N o.dst = true) (hop : o.op = .call { callee := .builtin .copy, args := #[x, y], argTypes := #[t, t'] })
    (hx : val s x = some (.slice (some ⟨b, off, none⟩) n cap)) (hy : val s y = some u) [ht : UT X.P t (.slice e)] [hs : SZ X.P e 1] [hu : VwB X l u m p] {k : Nat}
    (h : Wl X ops Q r s' l') (hat : At l b (bys q, te) (bys q', te) l' := by repeat (first | exact At.here | apply At.there)) (hk : Nat.min m n = k := by first | (with_reducible assumption) | rfl)
    (hfit : off + k ≤ q.length := by first | (with_reducible assumption) | omega) (hq : q.take off ++ (p.take k ++ q.drop (off + k)) = q' := by first | (with_reducible assumption) | rfl)
    (hs' : sputO s o.dst (.int .i64 (k : Int)) = s' := by (try dsimp only [sputO, sput, Nat.reduceBEq, cond_true, cond_false, beq_self_eq_true]); first | done | exact rfl) (htb : Nat.blt te BIG = true := by first | rfl | assumption) : Wl X ops Q (o :: r) s l := fun a w hst => by
  subst hs'
  have hw := gd_wanted hst.env hg
  obtain ⟨hcs, hok⟩ := hu.out w hst.mem
  obtain ⟨pu, cu, rfl, h1, h2, h3⟩ := hcs.ln.out
  have hgb := (hst.mem.cls.now b (bys q) te (hat.now hst.mem.nd)).trans (congrArg some (toObj_cells htb))
  have hkm : k ≤ m := by rw [← hk]; exact Nat.min_le_left _ _
  have htl : (bl (p.take k)).length = k := by rw [bl_len, List.length_take, hok.len]; omega
  have hrun : ∃ w', (Builtin.copy_ #[t, t'] o.type #[.slice (some ⟨b, off, none⟩) n cap, .slice pu m cu]).run X.P w = .ok (.int .i64 (k : Int)) w' ∧ Mem X l' w' := by
    by_cases h0 : k = 0
    · subst h0
      refine ⟨w, run_copy_none (P := X.P) w t t' o.type e _ pu n cap m cu ht.out hs.out hk, ?_⟩
      have e1 : q' = q := by rw [← hq]; simp
      subst e1
      have e2 : l' = l := hat.same
      rw [e2]; exact hst.mem
    · obtain ⟨b', off', rfl⟩ := h3 (by omega)
      refine ⟨_, run_copy_row (P := X.P) w t t' o.type e b off n cap ⟨b', off', none⟩ m cu (bys q) te (bl (p.take k)) ht.out hs.out hgb (by rw [htl, hk]) (fun j y hj => ?_) (by rw [htl]; simpa [bys, bl_len] using hfit) (bl_one _) |>.trans (by rw [htl]; rfl), ?_⟩
      · have hjl : j < k := by rw [← htl]; exact (List.getElem?_eq_some_iff.1 hj).1
        have hj' : (bl p)[j]? = some y := by
          rw [← bl_take, List.getElem?_take_of_lt hjl] at hj
          exact hj
        obtain ⟨b2, off2, cap2, hv, hc⟩ := hcs.cell j y hj'
        injection hv with hv
        injection hv with hv
        injection hv with hb' ho'
        subst hb'; subst ho'
        rw [Addr.add_mid]; exact hc
      · have e0 : off + k = off + (bl (p.take k)).length := by rw [htl]
        rw [e0, putR_bys]
        have e1 : q.take off ++ (p.take k ++ q.drop (off + (p.take k).length)) = q' := by
          rw [← hq, List.length_take, hok.len, Nat.min_eq_left hkm]
        rw [e1]
        exact hst.mem.upd hat
  obtain ⟨w', hrun, hmem⟩ := hrun
  unfold wpList
  rw [if_pos hw]
  refine .inl ?_
  unfold Oper.wp
  have : (execOp a.eval o).run X.P w = .ok (.value (.int .i64 (k : Int))) w' := by
    simp only [execOp, hop, resolve, invoke, builtin, Sem.run_bind, Sem.run_pure, Result.andThen_ok, List.map_toArray, List.map_cons, List.map_nil, hst.env.eval hx, hst.env.eval hy, hrun]
  rw [this]
  exact h _ _ ⟨hst.env.put hd _, hmem⟩
/-- New noughts. -/
theorem wl_makeB {t e bytes n : Nat} {x y : Operand} {kx ky : IntKind} {s' : Value → Slots} {f : Blks → Blks} (hg : gd s ops o = some true) (hd : dOk X.N o.dst = true) (hop : o.op = .makeSlice t x y) (hx : val s x = some (.int kx (n : Int))) (hy : val s y = some (.int ky (n : Int)))
    [ht : UT X.P t (.slice e)] [hei : EI X.P e 1 bytes #[.int .u8 0]] [hf : Snoc l f] (h : ∀ v' oa', OwnB e v' n (List.replicate n 0) oa' → Wl X ops Q r (s' v') (f oa'))
    (hb : n * bytes ≤ 140737488355328 ∧ n ≤ 1152921504606846976 := by (refine ⟨?_, ?_⟩ <;> omega))
    (hs' : ∀ v', sputO s o.dst v' = s' v' := by intro _; (try dsimp only [sputO, sput, Nat.reduceBEq, cond_true, cond_false, beq_self_eq_true]); first | done | exact rfl) : Wl X ops Q (o :: r) s l := fun ac w hst => by
  obtain rfl : (fun v' => sputO s o.dst v') = s' := funext hs'
  have hw := gd_wanted hst.env hg
  obtain ⟨i, zv, hi, hsz, hby, hz, hzc, hzs⟩ := hei.out
  have hr := run_make (P := X.P) w t e i zv ht.out hi hz kx ky (n : Int) (n : Int) (by omega) (Int.le_refl _) (by rw [hby, ← Int.natCast_mul, Nat.mul_comm]; omega) (by omega)
  rw [hsz, Nat.mul_one, Int.toNat_natCast, hzc] at hr
  unfold wpList
  rw [if_pos hw]
  refine .inl ?_
  unfold Oper.wp
  have : (execOp ac.eval o).run X.P w = .ok (.value (.slice (some ⟨w.heap.size, 0, none⟩) n n)) (w.alloc (.cells (madeCells #[.int .u8 0] n) e)) := by
    simp only [execOp, hop, hst.env.eval hx, hst.env.eval hy, Sem.run_bind, hr, Result.andThen_ok, Sem.run_pure]
  rw [this]
  haveI : Seg l [] f := ⟨l, [], by simp, fun o => by rw [hf.out, List.append_nil]⟩
  refine h _ [(w.heap.size, (madeCells #[.int .u8 0] n, e))] ⟨⟨by rw [bl_len, List.length_replicate, Nat.mul_one], .inr ⟨w.heap.size, n, madeCells #[.int .u8 0] n, rfl, Nat.le_refl _, ?_, by rw [size_madeCells, Nat.mul_one], ?_, rfl⟩, .inr hei.tb⟩, BL.rep n 0 (by decide)⟩ _ _ ⟨hst.env.put hd _, (upd_new (w := w) (w1 := w) rfl rfl rfl rfl [] _ e hei.tb).mem hst.mem⟩
  · simp only [maxLen]; omega
  · rw [made_one, bl_rep, Nat.mul_one, List.take_of_length_le (by simp)]; rfl
/-- Noughts are appended (gc's append of make). -/
theorem append_zeros {P : Program} {oa : Blks} {w : World} {t tn ty e bytes : Nat} {v : Value} {n m : Nat} {p : List Nat} {kn kv : IntKind}
    (ht : P.underlying t = some (.slice e)) (htn : P.underlying tn = some (.int kn)) (hei : EI P e 1 bytes #[.int .u8 0]) (hown : OwnB e v n p oa) (hd : Hd oa w)
    (h63 : n + m ≤ maxLen) (hb : (n + m) * bytes ≤ 140737488355328) :
    ∃ v' w' oa', (Builtin.append_ #[t, tn] ty #[v, .int kv (m : Int)]).run P w = .ok v' w' ∧ OwnB e v' (n + m) (p ++ List.replicate m 0) oa' ∧ Upd w oa w' oa' := by
  obtain ⟨i, zv, hi, hsz, hby, hz, hzc, hzs⟩ := hei.out
  have hxl := hown.own.len
  rw [Nat.mul_one] at hxl
  have hok : BL (n + m) (p ++ List.replicate m 0) := hown.ok.app (BL.rep m 0 (by decide))
  have hnd : (keys oa).Nodup := by rcases hown.own.out with ⟨_, _, rfl⟩ | ⟨g, cap, cur, _, _, _, _, _, rfl⟩ <;> simp [keys]
  have hl2 : (bl (p ++ List.replicate m 0)).length = (n + m) * 1 := by rw [bl_len, hok.len, Nat.mul_one]
  have h63' : n + m ≤ 9223372036854775807 := by simp only [maxLen] at h63; omega
  have hw : IntKind.i64.wrap (m : Int) = m := by rw [IntKind.wrap_i64]; omega
  have hneg : ¬ ((m : Int) < 0) := by omega
  have hmb : m * bytes ≤ 140737488355328 := Nat.le_trans (Nat.mul_le_mul_right _ (by omega)) hb
  have h48i : ¬ (281474976710656 < (m : Int) * (bytes : Int)) := by rw [← Int.natCast_mul]; omega
  have hw0 : IntKind.i64.wrap 0 = 0 := by decide
  by_cases h0 : m = 0
  · subst h0
    refine ⟨v, w, oa, ?_, ⟨by simpa using hown.own, by simpa using hok⟩, rfl, rfl, rfl, Nat.le_refl _, fun _ _ _ => rfl, hnd, hd, fun n hn => .inl hn⟩
    rcases hown.own.out with ⟨rfl, rfl, rfl⟩ | ⟨g, cap, cur, rfl, hnc, hcm, hcs, htake, rfl⟩
    · simp [Builtin.append_, run_underlying ht, run_underlying htn, sizeOf, typeInfo, hi, asInt, asIntOf, hw0]
    · simp [Builtin.append_, run_underlying ht, run_underlying htn, sizeOf, typeInfo, hi, asInt, asIntOf, hw0, hnc, storeCells]
  have size_new : ∀ k, n + m ≤ k → ((bl p).toArray ++ Builtin.zeroCells zv.cells m ++ Builtin.zeroCells zv.cells (k - (n + m))).size = k * 1 := fun k hk => by
    simp only [Array.size_append, List.size_toArray, size_zeroCells, hzc]
    rw [hxl]
    simp only [List.size_toArray, List.length_cons, List.length_nil]
    omega
  have take_new : ∀ k, ((bl p).toArray ++ Builtin.zeroCells zv.cells m ++ Builtin.zeroCells zv.cells (k - (n + m))).toList.take ((n + m) * 1) = bl (p ++ List.replicate m 0) := fun k => by
    rw [Array.toList_append, Array.toList_append, hzc, zeros_one, bl_app, bl_rep, ← hl2, bl_app, bl_rep]
    exact List.take_left
  rcases hown.own.out with ⟨rfl, rfl, rfl⟩ | ⟨g, cap, cur, rfl, hnc, hcm, hcs, htake, rfl⟩
  · have hx : p = [] := List.eq_nil_of_length_eq_zero (by rw [← hown.ok.len])
    subst hx
    have hr := Lib.run_append_nil_zeros (P := P) w t tn ty e i zv kv kn ht htn hi hz m (by omega) (by omega) (by omega) (by rw [hby]; omega)
    have hge := grownCap_ge w m 0 e
    have hcl := grownCap_le_maxLen w m 0 e (by omega)
    have hs := size_new (grownCap w m 0 e) (by omega)
    have htk := take_new (grownCap w m 0 e)
    simp only [Nat.zero_add, bl, List.map_nil, Array.empty_append, List.nil_append] at hs htk hl2 hok ⊢
    exact ⟨_, _, [(w.heap.size, (_, e))], hr, ⟨⟨hl2, .inr ⟨w.heap.size, _, _, rfl, hge, hcl, hs, htk, rfl⟩, .inr hei.tb⟩, hok⟩, upd_new (w := w) (w1 := w.drew) rfl rfl rfl rfl [] _ e hei.tb⟩
  · have hg : w.heap[g]? = some (.cells cur e (0, 0)) := (hd (g, (cur, e)) (by simp)).trans (congrArg some (toObj_cells hei.tb))
    by_cases hroom : n + m ≤ cap
    · have hfit : n + (List.replicate m (Value.int .u8 0)).length ≤ cur.size := by rw [List.length_replicate, hcs]; omega
      have hst := run_storeCells_at P g n e (List.replicate m (Value.int .u8 0)) 0 cur w hg (by simpa using hfit) (fun y hy => by rw [(List.mem_replicate.1 hy).2]; rfl)
      simp only [Nat.add_zero] at hst
      have hms : ¬ (m * i.size = 0) := by rw [hsz]; omega
      have hr : (Builtin.append_ #[t, tn] ty #[.slice (some ⟨g, 0, none⟩) n cap, .int kv (m : Int)]).run P w = .ok (.slice (some ⟨g, 0, none⟩) (n + m) cap) (w.setRow g (cur.toList.take n ++ List.replicate m (Value.int .u8 0) ++ cur.toList.drop (n + (List.replicate m (Value.int .u8 0)).length)).toArray) := by
        simp [Builtin.append_, run_underlying ht, run_underlying htn, sizeOf, typeInfo, zeroValue, hi, hz, hsz, hby, asInt, asIntOf, hw, hneg, h0, h48i, hroom, hzc, zeros_one, Addr.add_lit, hst]
      refine ⟨_, _, [(g, (_, e))], hr, ⟨⟨hl2, .inr ⟨g, cap, _, rfl, hroom, hcm, ?_, ?_, rfl⟩, .inr hei.tb⟩, hok⟩, rfl, rfl, rfl, by simp, fun k hk hne => setRow_other w g k _ (fun e => hne (by simp [keys, e])), by simp [keys], hd_one ((setRow_heap w g cur _ e _ hg).trans (congrArg some (toObj_cells hei.tb).symm)), fun n hn => .inl (by simpa [keys] using hn)⟩
      · simp only [List.size_toArray, List.length_append, List.length_take, List.length_drop, Array.length_toList, List.length_replicate]
        omega
      · rw [Nat.mul_one] at htake
        simp only [htake]
        rw [← hl2, bl_app, bl_rep]
        exact List.take_left
    · have holds : ∀ j y, (bl p)[j]? = some y → w.cell? ((⟨g, 0, none⟩ : Addr).add j) = some y := (hown.own.row hd).cells (g := g) rfl
      have hfc := run_firstCells_some (P := P) w.drew i.size n ⟨g, 0, none⟩ n cap (bl p) (by rw [hxl, hsz, Nat.mul_one]) holds
      have hr := Lib.run_append_grow_zeros (P := P) w t tn ty e i zv kv kn ht htn hi hz (some ⟨g, 0, none⟩) n cap (bl p) hfc m (by omega) (by omega) (by omega) (by omega) (by rw [hby]; omega) (by rw [hby]; exact growslice_fits (by omega) hb)
      have hge := grownCap_ge w (n + m) cap e
      have hcl := grownCap_le_maxLen w (n + m) cap e h63
      exact ⟨_, _, [(w.heap.size, (_, e))], hr, ⟨⟨hl2, .inr ⟨w.heap.size, _, _, rfl, hge, hcl, size_new _ hge, take_new _, rfl⟩, .inr hei.tb⟩, hok⟩, upd_new (w := w) (w1 := w.drew) rfl rfl rfl rfl _ _ e hei.tb⟩
theorem wl_append0 {x y : Operand} {t tn e bytes n m : Nat} {kn kv : IntKind} {p : List Nat} {oa : Blks} {f : Blks → Blks} {s' : Value → Slots}
    (hg : gd s ops o = some true) (hd : dOk X.N o.dst = true) (hop : o.op = .call { callee := .builtin .append, args := #[x, y], argTypes := #[t, tn] })
    (hx : val s x = some v) (hy : val s y = some (.int kv (m : Int))) [ht : UT X.P t (.slice e)] [htn : UT X.P tn (.int kn)] [hei : EI X.P e 1 bytes #[.int .u8 0]] [hown : OwnB e v n p oa] [hseg : Seg l oa f]
    (h : ∀ v' oa', OwnB e v' (n + m) (p ++ List.replicate m 0) oa' → Wl X ops Q r (s' v') (f oa'))
    (h63 : (n + m) * bytes ≤ 1152921504606846976 ∧ n + m ≤ 1152921504606846976 ∧ (n + m) * bytes ≤ 140737488355328 := by (refine ⟨?_, ?_, ?_⟩ <;> omega))
    (hs' : ∀ v', sputO s o.dst v' = s' v' := by intro _; (try dsimp only [sputO, sput, Nat.reduceBEq, cond_true, cond_false, beq_self_eq_true]); first | done | exact rfl) : Wl X ops Q (o :: r) s l := fun ac w hst => by
  obtain rfl : (fun v' => sputO s o.dst v') = s' := funext hs'
  have hw := gd_wanted hst.env hg
  have hdd : Hd oa w := by
    obtain ⟨pre, post, rfl, _⟩ := hseg.out
    intro p hp
    exact hst.mem.cls.now p.1 p.2.1 p.2.2 (mu_mem_of (by simp [hp]) hst.mem.nd)
  obtain ⟨v', w', oa', hr, ho', hup⟩ := append_zeros (ty := o.type) (kv := kv) (m := m) ht.out htn.out hei hown hdd (by simp only [maxLen]; omega) h63.2.2
  unfold wpList
  rw [if_pos hw]
  refine .inl ?_
  unfold Oper.wp
  have : (execOp ac.eval o).run X.P w = .ok (.value v') w' := by
    simp only [execOp, hop, resolve, invoke, builtin, Sem.run_bind, Sem.run_pure, Result.andThen_ok, List.map_toArray, List.map_cons, List.map_nil, hst.env.eval hx, hst.env.eval hy, hr]
  rw [this]
  exact h v' oa' ho' _ _ ⟨hst.env.put hd _, hup.mem hst.mem⟩
/-- A byte is put into a slice of the walk's own. -/
theorem wl_putB {x y : Operand} {t e n j k : Nat} {u : Value} {p : List Nat} {oa : Blks} {f : Blks → Blks} (hg : gd s ops o = some true) (hd : dOk X.N o.dst = true) (ho : o.op = .store t x y)
    (hx : val s x = some (.pointer (some ⟨elB u, elO u + j, none⟩))) (hy : val s y = some (.int .u8 (k : Int))) [hs : SZ X.P t 1] [hown : OwnB e u n p oa] [hseg : Seg l oa f]
    (h : ∀ oa', OwnB e u n (p.set j k) oa' → Wl X ops Q r s (f oa')) (hj : j < n := by first | (with_reducible assumption) | omega) (hk : k < 256 := by first | (with_reducible assumption) | omega) (hdn : o.dst = none := by rfl) : Wl X ops Q (o :: r) s l := fun ac w hst => by
  have hw := gd_wanted hst.env hg
  have hdd : Hd oa w := by
    obtain ⟨pre, post, rfl, _⟩ := hseg.out
    intro p hp
    exact hst.mem.cls.now p.1 p.2.1 p.2.2 (mu_mem_of (by simp [hp]) hst.mem.nd)
  have hxl := hown.own.len
  rcases hown.own.out with ⟨rfl, rfl, rfl⟩ | ⟨g, cap, cur, rfl, hnc, hcm, hcs, htake, rfl⟩
  · omega
  have hbig := hown.own.big
  have hgb : w.heap[g]? = some (.cells cur e (0, 0)) := (hdd (g, (cur, e)) (by simp)).trans (congrArg some (toObj_cells hbig))
  have hlt : 0 + j < cur.size := by omega
  have h1 : (Value.int .u8 (k : Int)).oneCell' = true := rfl
  have hrun := store_run (P := X.P) (ty := t) (off := 0 + j) (v := .int .u8 (k : Int)) (w := w) (.inr ⟨h1, hs.out, hlt⟩) hgb
  have e1 : splice cur (0 + j) (.int .u8 (k : Int)) = cur.setIfInBounds (0 + j) (.int .u8 (k : Int)) := rfl
  rw [e1] at hrun
  unfold wpList
  rw [if_pos hw]
  refine .inl ?_
  unfold Oper.wp
  have hx' := hst.env.eval hx
  have : (execOp ac.eval o).run X.P w = .ok .skip (w.setRow g (cur.setIfInBounds (0 + j) (.int .u8 (k : Int)))) := by
    simp only [execOp, ho, hx', hst.env.eval hy, Instr.storeAt, Instr.sureAddr, Sem.run_bind, Sem.run_pure, Result.andThen_ok, elB, elO, hrun]
  rw [this]
  have hs0 : sputO s o.dst undef = s := by rw [hdn]; rfl
  have hup : Upd w [(g, (cur, e))] (w.setRow g (cur.setIfInBounds (0 + j) (.int .u8 (k : Int)))) [(g, (cur.setIfInBounds (0 + j) (.int .u8 (k : Int)), e))] :=
    ⟨rfl, rfl, rfl, by simp, fun k' hk' hne => setRow_other w g k' _ (fun e => hne (by simp [keys, e])), by simp [keys], hd_one ((setRow_heap w g cur _ e _ hgb).trans (congrArg some (toObj_cells hbig).symm)), fun n hn => .inl (by simpa [keys] using hn)⟩
  refine (show Wl X ops Q r (sputO s o.dst undef) (f [(g, (cur.setIfInBounds (0 + j) (.int .u8 (k : Int)), e))]) from by
    rw [hs0]
    refine h _ ⟨⟨by rw [bl_len, List.length_set, hown.ok.len, Nat.mul_one], .inr ⟨g, cap, _, rfl, hnc, hcm, by simpa using hcs, ?_, rfl⟩, .inr hbig⟩, hown.ok.set hk⟩
    rw [Nat.zero_add, Array.toList_setIfInBounds, List.take_set, htake, bl_set]) _ _ ⟨hst.env.put hd _, hup.mem hst.mem⟩
end
end Go.Proofs.YtkendlnjaopbeaaGreatDoor
namespace Go.Proofs.YtkendlnjaopbeaaGreatDoor
/-- How many noughts. -/
def padK (n : Nat) : Nat := (119 - n % 64) % 64
def padTail (n : Nat) : List Nat := (List.range 8).map fun i => 8 * n % 18446744073709551616 / 2 ^ (56 - 8 * i) % 256
def padL (n : Nat) : List Nat := 128 :: (List.replicate (padK n) 0 ++ padTail n)
theorem padL_len (n : Nat) : (padL n).length = padK n + 9 := by simp [padL, padTail]
theorem padK_lt (n : Nat) : padK n < 64 := Nat.mod_lt _ (by decide)
end Go.Proofs.YtkendlnjaopbeaaGreatDoor
namespace Go.Proofs.YtkendlnjaopbeaaGreatDoor
def add32 (a b : Int) : Int := IntKind.u32.wrap (a + b)
def xor32 (a b : Int) : Int := bits .xor .u32 a b
def or32 (a b : Int) : Int := bits .or .u32 a b
def and32 (a b : Int) : Int := bits .and .u32 a b
/-- x turned s to the left. -/
def rotI (x : Int) (s : Nat) : Int := or32 (IntKind.u32.wrap (x * 2 ^ s)) (x / 2 ^ (32 - s))
def ss0 (x : Int) : Int := xor32 (xor32 (rotI x 25) (rotI x 14)) (x / 8)
def ss1 (x : Int) : Int := xor32 (xor32 (rotI x 15) (rotI x 13)) (x / 1024)
def bs1 (x : Int) : Int := xor32 (xor32 (rotI x 26) (rotI x 21)) (rotI x 7)
def bs0 (x : Int) : Int := xor32 (xor32 (rotI x 30) (rotI x 19)) (rotI x 10)
def wordI (p : List Nat) (at' : Nat) : Int := or32 (or32 (or32 ((p.getD at' 0 * 16777216 : Nat) : Int) ((p.getD (at' + 1) 0 * 65536 : Nat) : Int)) ((p.getD (at' + 2) 0 * 256 : Nat) : Int)) ((p.getD (at' + 3) 0 : Nat) : Int)
def nextW (l : List Int) (t : Nat) : Int := add32 (add32 (add32 (l.getD (t - 16) 0) (ss0 (l.getD (t - 15) 0))) (l.getD (t - 7) 0)) (ss1 (l.getD (t - 2) 0))
def schedI (b : List Nat) : Nat → List Int
  | 0 => List.replicate 64 0
  | t + 1 => (schedI b t).set t (if t < 16 then wordI b (4 * t) else nextW (schedI b t) t)
theorem schedI_len (b : List Nat) : ∀ t, (schedI b t).length = 64
  | 0 => by simp [schedI]
  | t + 1 => by rw [schedI, List.length_set, schedI_len b t]
def roots : List Int := [0x428a2f98, 0x71374491, 0xb5c0fbcf, 0xe9b5dba5, 0x3956c25b, 0x59f111f1, 0x923f82a4, 0xab1c5ed5,
  0xd807aa98, 0x12835b01, 0x243185be, 0x550c7dc3, 0x72be5d74, 0x80deb1fe, 0x9bdc06a7, 0xc19bf174,
  0xe49b69c1, 0xefbe4786, 0x0fc19dc6, 0x240ca1cc, 0x2de92c6f, 0x4a7484aa, 0x5cb0a9dc, 0x76f988da,
  0x983e5152, 0xa831c66d, 0xb00327c8, 0xbf597fc7, 0xc6e00bf3, 0xd5a79147, 0x06ca6351, 0x14292967,
  0x27b70a85, 0x2e1b2138, 0x4d2c6dfc, 0x53380d13, 0x650a7354, 0x766a0abb, 0x81c2c92e, 0x92722c85,
  0xa2bfe8a1, 0xa81a664b, 0xc24b8b70, 0xc76c51a3, 0xd192e819, 0xd6990624, 0xf40e3585, 0x106aa070,
  0x19a4c116, 0x1e376c08, 0x2748774c, 0x34b0bcb5, 0x391c0cb3, 0x4ed8aa4a, 0x5b9cca4f, 0x682e6ff3,
  0x748f82ee, 0x78a5636f, 0x84c87814, 0x8cc70208, 0x90befffa, 0xa4506ceb, 0xbef9a3f7, 0xc67178f2]
def oneI (v : List Int) (k w : Int) : Int := add32 (add32 (add32 (add32 (v.getD 7 0) (bs1 (v.getD 4 0))) (xor32 (and32 (v.getD 4 0) (v.getD 5 0)) (and32 (xor32 4294967295 (v.getD 4 0)) (v.getD 6 0)))) k) w
def twoI (v : List Int) : Int := add32 (bs0 (v.getD 0 0)) (xor32 (xor32 (and32 (v.getD 0 0) (v.getD 1 0)) (and32 (v.getD 0 0) (v.getD 2 0))) (and32 (v.getD 1 0) (v.getD 2 0)))
def roundI (v : List Int) (k w : Int) : List Int := [add32 (oneI v k w) (twoI v), v.getD 0 0, v.getD 1 0, v.getD 2 0, add32 (v.getD 3 0) (oneI v k w), v.getD 4 0, v.getD 5 0, v.getD 6 0]
def roundsI (h : List Int) (ws : List Int) : Nat → List Int
  | 0 => h
  | t + 1 => roundI (roundsI h ws t) (roots.getD t 0) (ws.getD t 0)
def addsI (h v : List Int) : Nat → List Int
  | 0 => h
  | i + 1 => (addsI h v i).set i (add32 ((addsI h v i).getD i 0) (v.getD i 0))
/-- A block is pressed into the words. -/
def pressI (h : List Int) (b : List Nat) : List Int := addsI h (roundsI h (schedI b 64) 64) 8
theorem roundsI_len (h ws : List Int) (hh : h.length = 8) : ∀ t, (roundsI h ws t).length = 8
  | 0 => hh
  | _ + 1 => rfl
theorem addsI_len (h v : List Int) : ∀ i, (addsI h v i).length = h.length
  | 0 => rfl
  | i + 1 => by rw [addsI, List.length_set, addsI_len h v i]
/-- A state: the words, how many bytes so far, what is left. -/
structure HS where
  h : List Int
  n : Nat
  left : List Nat
def HS.ok (s : HS) : Prop := s.h.length = 8 ∧ s.n < 18446744073709551616 ∧ s.left.length = 64 ∧ ∀ x ∈ s.left, x < 256
def newH : HS := ⟨[0x6a09e667, 0xbb67ae85, 0x3c6ef372, 0xa54ff53a, 0x510e527f, 0x9b05688c, 0x1f83d9ab, 0x5be0cd19], 0, List.replicate 64 0⟩
/-- One byte more. -/
def HS.put (s : HS) (b : Nat) : HS :=
  let left := s.left.set (s.n % 64) b
  let n := (s.n + 1) % 18446744073709551616
  ⟨if n % 64 = 0 then pressI s.h left else s.h, n, left⟩
def HS.write (s : HS) (p : List Nat) : HS := p.foldl HS.put s
def sumB (h : List Int) : List Nat := (h.map fun x => [(IntKind.u8.wrap (x / 16777216)).toNat, (IntKind.u8.wrap (x / 65536)).toNat, (IntKind.u8.wrap (x / 256)).toNat, (IntKind.u8.wrap x).toNat]).flatten
def HS.sum (s : HS) : List Nat := sumB (s.write (padL s.n)).h
/-- The digest. -/
def dig (p : List Nat) : List Nat := (newH.write p).sum
theorem newH_ok : newH.ok := ⟨rfl, by decide, rfl, by decide⟩
theorem HS.put_ok {s : HS} {b : Nat} (h : s.ok) (hb : b < 256) : (s.put b).ok := by
  obtain ⟨h1, h2, h3, h4⟩ := h
  refine ⟨?_, Nat.mod_lt _ (by decide), by simp [HS.put, h3], fun x hx => ?_⟩
  · simp only [HS.put]
    split
    · rw [pressI, addsI_len, h1]
    · exact h1
  · rcases List.mem_or_eq_of_mem_set hx with h | h
    · exact h4 x h
    · rw [h]; exact hb
theorem HS.write_ok {p : List Nat} (hp : ∀ x ∈ p, x < 256) : ∀ {s : HS}, s.ok → (s.write p).ok := by
  induction p with
  | nil => intro s h; exact h
  | cons b r ih => intro s h; exact ih (fun x hx => hp x (by simp [hx])) (HS.put_ok h (hp b (by simp)))
theorem HS.write_app (s : HS) (p q : List Nat) : s.write (p ++ q) = (s.write p).write q := by simp [HS.write, List.foldl_append]
theorem HS.write_snoc (s : HS) (p : List Nat) (b : Nat) : s.write (p ++ [b]) = (s.write p).put b := by rw [HS.write_app]; rfl
end Go.Proofs.YtkendlnjaopbeaaGreatDoor
namespace Go.Proofs.YtkendlnjaopbeaaGreatDoor
open Go.RowKit
theorem wrapU (x : Nat) : IntKind.u64.wrap (x : Int) = ((x % 18446744073709551616 : Nat) : Int) := by
  have e : (2 : Int) ^ 64 = 18446744073709551616 := rfl
  simp only [IntKind.wrap, IntKind.bits, IntKind.signed, Bool.false_and, e]; simp
theorem wrapB (x : Nat) : IntKind.u8.wrap (x : Int) = ((x % 256 : Nat) : Int) := by
  simp only [IntKind.wrap, IntKind.bits, IntKind.signed]; simp
theorem rep_snoc {α : Type} (k : Nat) (x : α) : List.replicate k x ++ [x] = List.replicate (k + 1) x := by rw [List.replicate_succ']
theorem range_snoc {α : Type} (k : Nat) (f : Nat → α) : (List.range k).map f ++ [f k] = (List.range (k + 1)).map f := by rw [List.range_succ, List.map_append]; rfl
end Go.Proofs.YtkendlnjaopbeaaGreatDoor
namespace Go.Proofs.YtkendlnjaopbeaaGreatDoor
open Go.RowKit
set_option linter.unusedVariables false
set_option linter.unusedSimpArgs false
set_option maxRecDepth 100000
set_option maxRecDepth 100000 in
set_option maxHeartbeats 2000000 in
theorem rotl_c (x k : Int) (s : Nat) (hs : bits .and .u64 (IntKind.u64.wrap k) 31 = (s : Int)) (h1 : 0 < s) (h2 : s < 32) (w : World) : Calls Tryz.prog 68 [.int .u32 x, .int .i64 k].toArray w (Ret (.int .u32 (rotI x s)) w) := by
  have w1 : IntKind.u64.wrap (32 - (s : Int)) = ((32 - s : Nat) : Int) := by rw [wrap_u64 _ (by omega) (by omega)]; omega
  have e1 : IntKind.u32.wrap (x * 2 ^ (min ((s : Int).toNat) IntKind.u32.bits)) = IntKind.u32.wrap (x * 2 ^ s) := by rw [Int.toNat_natCast, Nat.min_eq_left (by simp [IntKind.bits]; omega)]
  have e2 : x / 2 ^ (min (((32 - s : Nat) : Int).toNat) IntKind.u32.bits) = x / 2 ^ (32 - s) := by rw [Int.toNat_natCast, Nat.min_eq_left (by simp [IntKind.bits])]
  refine fn_ret (N := _) Tryz.func68 rfl Tryz.ntmps68 Tryz.results68 (by simp) ?_
  simp only [initS, Nat.reduceAdd, Nat.zero_add]
  repeat' (first | (refine wlS ?_) | (refine wlB ?_) | (refine wl_skip rfl rfl ?_) | ((with_reducible refine wc_seq ?_); intro K hK) | (refine auC ?_) | (refine wc_cond rfl (fun hc => ?_) (fun hc => ?_)) | (refine wc_draw (by kernel_rfl) (by kernel_rfl) (by decide +kernel) ?_; intro w0 hw0 hm0; (try simp only [List.append_eq, List.cons_append, List.nil_append])) | (refine auP ?_) | ((refine auR ?_); clear hK K) | (refine auR ?_) | ((with_reducible refine hK _ _ ?_); clear hK K) | fail)
  first | refine end_ret (ResP.tmp rfl ResP.nil) ?_ | refine end_normal (ResP.tmp rfl ResP.nil) ?_
  first | rfl | (show _ = _; rfl) | (simp only [tupV, *]; done)
theorem right2 (w : World) {x : Int} : Calls Tryz.prog 47 [.int .u32 x, .int .i64 2].toArray w (Ret (.int .u32 (rotI x 30)) w) := by
  have C := rotl_c x (-2) 30 (by decide) (by decide) (by decide)
  have w1 : IntKind.i64.wrap (0 - 2) = -2 := by decide
  refine fn_ret (N := _) Tryz.func47 rfl Tryz.ntmps47 Tryz.results47 (by simp) ?_
  simp only [initS, Nat.reduceAdd, Nat.zero_add]
  repeat' (first | (refine wlB ?_) | ((with_reducible refine sel_call ?_); refine wl_rd rfl rfl (rd_call rfl rfl rfl (fun w hm => by with_reducible exact C w)) ?_) | (refine wlE ?_) | (refine wl_skip rfl rfl ?_) | ((with_reducible refine wc_seq ?_); intro K hK) | (refine auC ?_) | (refine wc_cond rfl (fun hc => ?_) (fun hc => ?_)) | (refine wc_draw (by kernel_rfl) (by kernel_rfl) (by decide +kernel) ?_; intro w0 hw0 hm0; (try simp only [List.append_eq, List.cons_append, List.nil_append])) | (refine auP ?_) | ((refine auR ?_); clear hK K) | (refine auR ?_) | ((with_reducible refine hK _ _ ?_); clear hK K) | fail)
  first | refine end_ret (ResP.tmp rfl ResP.nil) ?_ | refine end_normal (ResP.tmp rfl ResP.nil) ?_
  first | rfl | (show _ = _; rfl) | (simp only [tupV, *]; done)
theorem right6 (w : World) {x : Int} : Calls Tryz.prog 47 [.int .u32 x, .int .i64 6].toArray w (Ret (.int .u32 (rotI x 26)) w) := by
  have C := rotl_c x (-6) 26 (by decide) (by decide) (by decide)
  have w1 : IntKind.i64.wrap (0 - 6) = -6 := by decide
  refine fn_ret (N := _) Tryz.func47 rfl Tryz.ntmps47 Tryz.results47 (by simp) ?_
  simp only [initS, Nat.reduceAdd, Nat.zero_add]
  repeat' (first | (refine wlB ?_) | ((with_reducible refine sel_call ?_); refine wl_rd rfl rfl (rd_call rfl rfl rfl (fun w hm => by with_reducible exact C w)) ?_) | (refine wlE ?_) | (refine wl_skip rfl rfl ?_) | ((with_reducible refine wc_seq ?_); intro K hK) | (refine auC ?_) | (refine wc_cond rfl (fun hc => ?_) (fun hc => ?_)) | (refine wc_draw (by kernel_rfl) (by kernel_rfl) (by decide +kernel) ?_; intro w0 hw0 hm0; (try simp only [List.append_eq, List.cons_append, List.nil_append])) | (refine auP ?_) | ((refine auR ?_); clear hK K) | (refine auR ?_) | ((with_reducible refine hK _ _ ?_); clear hK K) | fail)
  first | refine end_ret (ResP.tmp rfl ResP.nil) ?_ | refine end_normal (ResP.tmp rfl ResP.nil) ?_
  first | rfl | (show _ = _; rfl) | (simp only [tupV, *]; done)
theorem right7 (w : World) {x : Int} : Calls Tryz.prog 47 [.int .u32 x, .int .i64 7].toArray w (Ret (.int .u32 (rotI x 25)) w) := by
  have C := rotl_c x (-7) 25 (by decide) (by decide) (by decide)
  have w1 : IntKind.i64.wrap (0 - 7) = -7 := by decide
  refine fn_ret (N := _) Tryz.func47 rfl Tryz.ntmps47 Tryz.results47 (by simp) ?_
  simp only [initS, Nat.reduceAdd, Nat.zero_add]
  repeat' (first | (refine wlB ?_) | ((with_reducible refine sel_call ?_); refine wl_rd rfl rfl (rd_call rfl rfl rfl (fun w hm => by with_reducible exact C w)) ?_) | (refine wlE ?_) | (refine wl_skip rfl rfl ?_) | ((with_reducible refine wc_seq ?_); intro K hK) | (refine auC ?_) | (refine wc_cond rfl (fun hc => ?_) (fun hc => ?_)) | (refine wc_draw (by kernel_rfl) (by kernel_rfl) (by decide +kernel) ?_; intro w0 hw0 hm0; (try simp only [List.append_eq, List.cons_append, List.nil_append])) | (refine auP ?_) | ((refine auR ?_); clear hK K) | (refine auR ?_) | ((with_reducible refine hK _ _ ?_); clear hK K) | fail)
  first | refine end_ret (ResP.tmp rfl ResP.nil) ?_ | refine end_normal (ResP.tmp rfl ResP.nil) ?_
  first | rfl | (show _ = _; rfl) | (simp only [tupV, *]; done)
theorem right11 (w : World) {x : Int} : Calls Tryz.prog 47 [.int .u32 x, .int .i64 11].toArray w (Ret (.int .u32 (rotI x 21)) w) := by
  have C := rotl_c x (-11) 21 (by decide) (by decide) (by decide)
  have w1 : IntKind.i64.wrap (0 - 11) = -11 := by decide
  refine fn_ret (N := _) Tryz.func47 rfl Tryz.ntmps47 Tryz.results47 (by simp) ?_
  simp only [initS, Nat.reduceAdd, Nat.zero_add]
  repeat' (first | (refine wlB ?_) | ((with_reducible refine sel_call ?_); refine wl_rd rfl rfl (rd_call rfl rfl rfl (fun w hm => by with_reducible exact C w)) ?_) | (refine wlE ?_) | (refine wl_skip rfl rfl ?_) | ((with_reducible refine wc_seq ?_); intro K hK) | (refine auC ?_) | (refine wc_cond rfl (fun hc => ?_) (fun hc => ?_)) | (refine wc_draw (by kernel_rfl) (by kernel_rfl) (by decide +kernel) ?_; intro w0 hw0 hm0; (try simp only [List.append_eq, List.cons_append, List.nil_append])) | (refine auP ?_) | ((refine auR ?_); clear hK K) | (refine auR ?_) | ((with_reducible refine hK _ _ ?_); clear hK K) | fail)
  first | refine end_ret (ResP.tmp rfl ResP.nil) ?_ | refine end_normal (ResP.tmp rfl ResP.nil) ?_
  first | rfl | (show _ = _; rfl) | (simp only [tupV, *]; done)
theorem right13 (w : World) {x : Int} : Calls Tryz.prog 47 [.int .u32 x, .int .i64 13].toArray w (Ret (.int .u32 (rotI x 19)) w) := by
  have C := rotl_c x (-13) 19 (by decide) (by decide) (by decide)
  have w1 : IntKind.i64.wrap (0 - 13) = -13 := by decide
  refine fn_ret (N := _) Tryz.func47 rfl Tryz.ntmps47 Tryz.results47 (by simp) ?_
  simp only [initS, Nat.reduceAdd, Nat.zero_add]
  repeat' (first | (refine wlB ?_) | ((with_reducible refine sel_call ?_); refine wl_rd rfl rfl (rd_call rfl rfl rfl (fun w hm => by with_reducible exact C w)) ?_) | (refine wlE ?_) | (refine wl_skip rfl rfl ?_) | ((with_reducible refine wc_seq ?_); intro K hK) | (refine auC ?_) | (refine wc_cond rfl (fun hc => ?_) (fun hc => ?_)) | (refine wc_draw (by kernel_rfl) (by kernel_rfl) (by decide +kernel) ?_; intro w0 hw0 hm0; (try simp only [List.append_eq, List.cons_append, List.nil_append])) | (refine auP ?_) | ((refine auR ?_); clear hK K) | (refine auR ?_) | ((with_reducible refine hK _ _ ?_); clear hK K) | fail)
  first | refine end_ret (ResP.tmp rfl ResP.nil) ?_ | refine end_normal (ResP.tmp rfl ResP.nil) ?_
  first | rfl | (show _ = _; rfl) | (simp only [tupV, *]; done)
theorem right17 (w : World) {x : Int} : Calls Tryz.prog 47 [.int .u32 x, .int .i64 17].toArray w (Ret (.int .u32 (rotI x 15)) w) := by
  have C := rotl_c x (-17) 15 (by decide) (by decide) (by decide)
  have w1 : IntKind.i64.wrap (0 - 17) = -17 := by decide
  refine fn_ret (N := _) Tryz.func47 rfl Tryz.ntmps47 Tryz.results47 (by simp) ?_
  simp only [initS, Nat.reduceAdd, Nat.zero_add]
  repeat' (first | (refine wlB ?_) | ((with_reducible refine sel_call ?_); refine wl_rd rfl rfl (rd_call rfl rfl rfl (fun w hm => by with_reducible exact C w)) ?_) | (refine wlE ?_) | (refine wl_skip rfl rfl ?_) | ((with_reducible refine wc_seq ?_); intro K hK) | (refine auC ?_) | (refine wc_cond rfl (fun hc => ?_) (fun hc => ?_)) | (refine wc_draw (by kernel_rfl) (by kernel_rfl) (by decide +kernel) ?_; intro w0 hw0 hm0; (try simp only [List.append_eq, List.cons_append, List.nil_append])) | (refine auP ?_) | ((refine auR ?_); clear hK K) | (refine auR ?_) | ((with_reducible refine hK _ _ ?_); clear hK K) | fail)
  first | refine end_ret (ResP.tmp rfl ResP.nil) ?_ | refine end_normal (ResP.tmp rfl ResP.nil) ?_
  first | rfl | (show _ = _; rfl) | (simp only [tupV, *]; done)
theorem right18 (w : World) {x : Int} : Calls Tryz.prog 47 [.int .u32 x, .int .i64 18].toArray w (Ret (.int .u32 (rotI x 14)) w) := by
  have C := rotl_c x (-18) 14 (by decide) (by decide) (by decide)
  have w1 : IntKind.i64.wrap (0 - 18) = -18 := by decide
  refine fn_ret (N := _) Tryz.func47 rfl Tryz.ntmps47 Tryz.results47 (by simp) ?_
  simp only [initS, Nat.reduceAdd, Nat.zero_add]
  repeat' (first | (refine wlB ?_) | ((with_reducible refine sel_call ?_); refine wl_rd rfl rfl (rd_call rfl rfl rfl (fun w hm => by with_reducible exact C w)) ?_) | (refine wlE ?_) | (refine wl_skip rfl rfl ?_) | ((with_reducible refine wc_seq ?_); intro K hK) | (refine auC ?_) | (refine wc_cond rfl (fun hc => ?_) (fun hc => ?_)) | (refine wc_draw (by kernel_rfl) (by kernel_rfl) (by decide +kernel) ?_; intro w0 hw0 hm0; (try simp only [List.append_eq, List.cons_append, List.nil_append])) | (refine auP ?_) | ((refine auR ?_); clear hK K) | (refine auR ?_) | ((with_reducible refine hK _ _ ?_); clear hK K) | fail)
  first | refine end_ret (ResP.tmp rfl ResP.nil) ?_ | refine end_normal (ResP.tmp rfl ResP.nil) ?_
  first | rfl | (show _ = _; rfl) | (simp only [tupV, *]; done)
theorem right19 (w : World) {x : Int} : Calls Tryz.prog 47 [.int .u32 x, .int .i64 19].toArray w (Ret (.int .u32 (rotI x 13)) w) := by
  have C := rotl_c x (-19) 13 (by decide) (by decide) (by decide)
  have w1 : IntKind.i64.wrap (0 - 19) = -19 := by decide
  refine fn_ret (N := _) Tryz.func47 rfl Tryz.ntmps47 Tryz.results47 (by simp) ?_
  simp only [initS, Nat.reduceAdd, Nat.zero_add]
  repeat' (first | (refine wlB ?_) | ((with_reducible refine sel_call ?_); refine wl_rd rfl rfl (rd_call rfl rfl rfl (fun w hm => by with_reducible exact C w)) ?_) | (refine wlE ?_) | (refine wl_skip rfl rfl ?_) | ((with_reducible refine wc_seq ?_); intro K hK) | (refine auC ?_) | (refine wc_cond rfl (fun hc => ?_) (fun hc => ?_)) | (refine wc_draw (by kernel_rfl) (by kernel_rfl) (by decide +kernel) ?_; intro w0 hw0 hm0; (try simp only [List.append_eq, List.cons_append, List.nil_append])) | (refine auP ?_) | ((refine auR ?_); clear hK K) | (refine auR ?_) | ((with_reducible refine hK _ _ ?_); clear hK K) | fail)
  first | refine end_ret (ResP.tmp rfl ResP.nil) ?_ | refine end_normal (ResP.tmp rfl ResP.nil) ?_
  first | rfl | (show _ = _; rfl) | (simp only [tupV, *]; done)
theorem right22 (w : World) {x : Int} : Calls Tryz.prog 47 [.int .u32 x, .int .i64 22].toArray w (Ret (.int .u32 (rotI x 10)) w) := by
  have C := rotl_c x (-22) 10 (by decide) (by decide) (by decide)
  have w1 : IntKind.i64.wrap (0 - 22) = -22 := by decide
  refine fn_ret (N := _) Tryz.func47 rfl Tryz.ntmps47 Tryz.results47 (by simp) ?_
  simp only [initS, Nat.reduceAdd, Nat.zero_add]
  repeat' (first | (refine wlB ?_) | ((with_reducible refine sel_call ?_); refine wl_rd rfl rfl (rd_call rfl rfl rfl (fun w hm => by with_reducible exact C w)) ?_) | (refine wlE ?_) | (refine wl_skip rfl rfl ?_) | ((with_reducible refine wc_seq ?_); intro K hK) | (refine auC ?_) | (refine wc_cond rfl (fun hc => ?_) (fun hc => ?_)) | (refine wc_draw (by kernel_rfl) (by kernel_rfl) (by decide +kernel) ?_; intro w0 hw0 hm0; (try simp only [List.append_eq, List.cons_append, List.nil_append])) | (refine auP ?_) | ((refine auR ?_); clear hK K) | (refine auR ?_) | ((with_reducible refine hK _ _ ?_); clear hK K) | fail)
  first | refine end_ret (ResP.tmp rfl ResP.nil) ?_ | refine end_normal (ResP.tmp rfl ResP.nil) ?_
  first | rfl | (show _ = _; rfl) | (simp only [tupV, *]; done)
theorem right25 (w : World) {x : Int} : Calls Tryz.prog 47 [.int .u32 x, .int .i64 25].toArray w (Ret (.int .u32 (rotI x 7)) w) := by
  have C := rotl_c x (-25) 7 (by decide) (by decide) (by decide)
  have w1 : IntKind.i64.wrap (0 - 25) = -25 := by decide
  refine fn_ret (N := _) Tryz.func47 rfl Tryz.ntmps47 Tryz.results47 (by simp) ?_
  simp only [initS, Nat.reduceAdd, Nat.zero_add]
  repeat' (first | (refine wlB ?_) | ((with_reducible refine sel_call ?_); refine wl_rd rfl rfl (rd_call rfl rfl rfl (fun w hm => by with_reducible exact C w)) ?_) | (refine wlE ?_) | (refine wl_skip rfl rfl ?_) | ((with_reducible refine wc_seq ?_); intro K hK) | (refine auC ?_) | (refine wc_cond rfl (fun hc => ?_) (fun hc => ?_)) | (refine wc_draw (by kernel_rfl) (by kernel_rfl) (by decide +kernel) ?_; intro w0 hw0 hm0; (try simp only [List.append_eq, List.cons_append, List.nil_append])) | (refine auP ?_) | ((refine auR ?_); clear hK K) | (refine auR ?_) | ((with_reducible refine hK _ _ ?_); clear hK K) | fail)
  first | refine end_ret (ResP.tmp rfl ResP.nil) ?_ | refine end_normal (ResP.tmp rfl ResP.nil) ?_
  first | rfl | (show _ = _; rfl) | (simp only [tupV, *]; done)
set_option maxHeartbeats 2000000 in
theorem word_c (w : World) {v : Value} {n : Nat} {p : List Nat} (h : Cb w v n p) (at' : Nat) (hn : at' + 3 < n) (hs : n < 9223372036854775808) : Calls Tryz.prog 46 [v, .int .i64 (at' : Int)].toArray w (Ret (.int .u32 (wordI p at')) w) := by
  haveI := h.old
  have bt : ∀ i, i < n → p.getD i 0 < 256 := fun i hi => by
    have hi' : i < p.length := by rw [h.ok.len]; exact hi
    exact h.ok.by' _ (by rw [show p.getD i 0 = p[i] by simp [List.getD, hi']]; exact List.getElem_mem hi')
  have b0 := bt at' (by omega)
  have b1 := bt (at' + 1) (by omega)
  have b2 := bt (at' + 2) (by omega)
  have b3 := bt (at' + 3) (by omega)
  have g0 : (bl p)[at']? = some (.int .u8 ((p.getD at' 0 : Nat) : Int)) := bl_get (by rw [h.ok.len]; omega)
  have g1 : (bl p)[at' + 1]? = some (.int .u8 ((p.getD (at' + 1) 0 : Nat) : Int)) := bl_get (by rw [h.ok.len]; omega)
  have g2 : (bl p)[at' + 2]? = some (.int .u8 ((p.getD (at' + 2) 0 : Nat) : Int)) := bl_get (by rw [h.ok.len]; omega)
  have g3 : (bl p)[at' + 3]? = some (.int .u8 ((p.getD (at' + 3) 0 : Nat) : Int)) := bl_get (by rw [h.ok.len]; omega)
  have a1 : IntKind.i64.wrap ((at' : Int) + 1) = ((at' + 1 : Nat) : Int) := by rw [wrap_i64 _ (by omega) (by omega)]; omega
  have a2 : IntKind.i64.wrap ((at' : Int) + 2) = ((at' + 2 : Nat) : Int) := by rw [wrap_i64 _ (by omega) (by omega)]; omega
  have a3 : IntKind.i64.wrap ((at' : Int) + 3) = ((at' + 3 : Nat) : Int) := by rw [wrap_i64 _ (by omega) (by omega)]; omega
  have l0 : (at' : Int) < (n : Int) := by omega
  have l1 : ((at' + 1 : Nat) : Int) < (n : Int) := by omega
  have l2 : ((at' + 2 : Nat) : Int) < (n : Int) := by omega
  have l3 : ((at' + 3 : Nat) : Int) < (n : Int) := by omega
  have s0 : IntKind.u32.wrap (((p.getD at' 0 : Nat) : Int) * 2 ^ (min ((24 : Int).toNat) IntKind.u32.bits)) = ((p.getD at' 0 * 16777216 : Nat) : Int) := by
    rw [show (2 : Int) ^ (min ((24 : Int).toNat) IntKind.u32.bits) = 16777216 from rfl, wrap_u32 _ (by omega) (by omega)]; omega
  have s1 : IntKind.u32.wrap (((p.getD (at' + 1) 0 : Nat) : Int) * 2 ^ (min ((16 : Int).toNat) IntKind.u32.bits)) = ((p.getD (at' + 1) 0 * 65536 : Nat) : Int) := by
    rw [show (2 : Int) ^ (min ((16 : Int).toNat) IntKind.u32.bits) = 65536 from rfl, wrap_u32 _ (by omega) (by omega)]; omega
  have s2 : IntKind.u32.wrap (((p.getD (at' + 2) 0 : Nat) : Int) * 2 ^ (min ((8 : Int).toNat) IntKind.u32.bits)) = ((p.getD (at' + 2) 0 * 256 : Nat) : Int) := by
    rw [show (2 : Int) ^ (min ((8 : Int).toNat) IntKind.u32.bits) = 256 from rfl, wrap_u32 _ (by omega) (by omega)]; omega
  clear h bt
  refine fn_ret (N := _) Tryz.func46 rfl Tryz.ntmps46 Tryz.results46 (by simp) ?_
  simp only [initS, Nat.reduceAdd, Nat.zero_add]
  repeat' (first | (refine wlS ?_) | (refine wlB ?_) | (refine wl_skip rfl rfl ?_) | ((with_reducible refine wc_seq ?_); intro K hK) | (refine auC ?_) | (refine wc_cond rfl (fun hc => ?_) (fun hc => ?_)) | ((with_reducible refine wc_drawT (by kernel_rfl) ?_); (try simp only [List.append_eq, List.cons_append, List.nil_append, List.length_cons, List.length_nil, Nat.reduceAdd])) | ((with_reducible refine sel_wh ?_); (refine wh_if (by decide +kernel) ?_); first | (refine wh_take (lq := []) rfl rfl rfl rfl (by first | exact rvS | exact rvB) (Or.inl rfl) ?_) | (refine wh_takeL rfl rfl rfl rfl (by first | exact rvS | exact rvB) (by decide +kernel) ?_)) | (refine whS ?_; intro v hv hp) | ((with_reducible refine sel_wh ?_); first | (refine wh_pass rfl rfl rfl rfl ?_) | (refine wh_done rfl ?_) | (refine wh_all rfl ?_)) | ((with_reducible refine sel_rest ?_); first | exact rest_nil rfl | refine rest_cons rfl rfl ?_ ?_) | ((with_reducible refine sel_nx ?_); first | refine next_of ?_ | refine next_late (by decide +kernel) ?_) | (refine auP ?_) | ((refine auR ?_); clear hK K) | (refine auR ?_) | ((with_reducible refine hK _ _ ?_); clear hK K) | fail)
  first | refine end_ret (ResP.tmp rfl ResP.nil) ?_ | refine end_normal (ResP.tmp rfl ResP.nil) ?_
  first | rfl | (show _ = _; rfl) | (simp only [tupV, *]; done)
end Go.Proofs.YtkendlnjaopbeaaGreatDoor
namespace Go.Proofs.YtkendlnjaopbeaaGreatDoor
open Go.RowKit Go.ChangeShapes
set_option linter.unusedVariables false
set_option linter.unusedSimpArgs false
/-- A slice of n bytes in the memory w: byte i is f i. -/
structure Sl (W : World) (p : Option Addr) (n : Nat) (f : Nat → Nat) : Prop where
  small : n < 9223372036854775808
  byte : ∀ i, f i < 256
  cell : ∀ i, i < n → ∃ b off, p = some ⟨b, off, none⟩ ∧ W.cell? ⟨b, off + i, none⟩ = some (.int .u8 ((f i : Nat) : Int))
theorem Sl.below {W w : World} {p : Option Addr} {n : Nat} {f : Nat → Nat} (h : Sl W p n f) (hb : Below W.heap.size W w) : Sl w p n f := ⟨h.small, h.byte, fun i hi => by
  obtain ⟨b, off, hp, hc⟩ := h.cell i hi
  exact ⟨b, off, hp, by rw [hb.cell (World.block_lt_of_cell? _ _ hc)]; exact hc⟩⟩
section
variable {X : Cx} {s : Slots} {l : Blks} {o : Oper} {v : Value}
/-- A cell that was there when the function began. -/
theorem ld_old {t b off : Nat} [hu : KD X.P t false] (hc : X.W.cell? ⟨b, off, none⟩ = some v) (ho : X.own = [] := by rfl) : Ld X l t b off v := fun w hm => by
  have hc' : w.cell? ⟨b, off, none⟩ = some v := by rw [(hm.below ho).cell (World.block_lt_of_cell? _ _ hc)]; exact hc
  simp [loadVar, Sem.run_bind, hu.agg, run_load, hc']
theorem rd_min {c : Call} {x y : Operand} {k k' : IntKind} {a b r : Int} (ho : o.op = .call c) (hc : c.callee = .builtin .min) (ha : c.args = #[x, y]) (hx : val s x = some (.int k a)) (hy : val s y = some (.int k' b)) (hr : (if b < a then b else a) = r := by with_reducible assumption) : RdV X s l o (.int k r) :=
  rd_val fun e w he hm => by
    subst hr
    simp only [execOp, ho, resolve, hc, ha, List.map_toArray, List.map_cons, List.map_nil, he.eval hx, he.eval hy]
    simp [invoke, builtin, Sem.run_bind, run_min_int2]
theorem rd_neqB {t yt : Nat} {x y : Operand} {a b r : Bool} (ho : o.op = .binOp .neq t x y yt) (hx : val s x = some (.bool a)) (hy : val s y = some (.bool b)) [h : UT X.P t .bool] (hr : (a != b) = r) : RdV X s l o (.bool r) :=
  rd_val fun e w he hm => by
    subst hr
    have q : (Op.equalIn 10000 t (.bool a) (.bool b)).run X.P w = .ok (a == b) w := by
      rw [show (10000 : Nat) = 9999 + 1 from rfl, Op.equalIn, Sem.run_bind, run_underlying h.out]; rfl
    simp only [execOp, ho, he.eval hx, he.eval hy, eqGuard]
    simp [run_neq w rfl q]
    cases a <;> cases b <;> rfl
/-- A call through a value. -/
theorem rd_callv {c : Call} {f : Nat} {y : Operand} {vs : List Value} (ho : o.op = .call c) (hc : c.callee = .value y) (hy : val s y = some (.func (.func f) #[] #[])) (ha : vals s c.args.toList = some vs)
    (h : ∀ w, Mem X l w → Calls X.P f vs.toArray w (Ret v w)) (hk : callOk X.P f = true := by kernel_rfl) : Rd X s l o v := fun a w he hm => by
  have h1 := he.vals ha
  have h2 : c.args.map a.eval = vs.toArray := by rw [← h1]; simp [← Array.toList_map]
  have e : (execOp a.eval o).run X.P w = (callFunc f vs.toArray).run X.P w := by
    simp only [execOp, ho, resolve, hc, h2, he.eval hy, Deferred.ofValue]
    simp [invoke]
  rw [e, run_enter hk]
  exact ⟨rfl, h w hm⟩
end
section
variable {H : Type} {enc : TypeId × Value → H} {P : Program} {w : World} {base : Nat}
theorem wf_byte {z : Int} (h : (Lit.int .u8 z).wf = true) : 0 ≤ z ∧ z < 256 := by
  simp [Lit.wf, IntKind.min, IntKind.max, IntKind.signed, IntKind.bits] at h
  exact ⟨h.1, by omega⟩
theorem open_bytes {t e : TypeId} {r : Reach} {b0 : Nat} {v : Value} {d : DataW H} {p : List MemPlace} (ht : P.underlying t = some (.slice e)) (he : P.underlying e = some (.int .u8)) (hce : P.cellsOf e = 1)
    (hv : Value.okWide P w r b0 t v) (h : DataW.Trod enc P w base (fun _ => true) true t v d p) : ∃ (q : Option Addr) (n cap : Nat) (f : Nat → Nat), v = .slice q n cap ∧ n ≤ cap ∧ Sl w q n f := by
  obtain ⟨a0, len0, cap0, rfl⟩ := Go.WideShapes.okWide_slice ht hv
  obtain ⟨fuel, hf⟩ := h
  rcases open_ints ht he hce hf with ⟨hcs, hx⟩ | ⟨a, len, cap, zs, hcs, _, hl, hm, hz, hx, hcell, hwz⟩
  · simp [Value.cells] at hcs
    obtain ⟨rfl, rfl, rfl⟩ := hcs
    exact ⟨none, 0, 0, fun _ => 0, rfl, Nat.le_refl _, by decide, fun _ => by decide, fun i hi => by omega⟩
  · simp [Value.cells] at hcs
    obtain ⟨rfl, rfl, rfl⟩ := hcs
    simp only [if_true] at hz
    refine ⟨some a, _, _, fun i => (zs.getD i 0).toNat, rfl, hl, by simp [maxLen] at hm; omega, fun i => ?_, fun i hi => ?_⟩
    · by_cases hi : i < zs.length
      · have := wf_byte (hwz zs[i] (List.getElem_mem hi))
        simp [List.getD, hi]; omega
      · simp [List.getD, hi]
    · have h0 := hcell 0 (by omega)
      have hi' := hcell i (by omega)
      obtain ⟨b, off, spot⟩ := a
      have hs : spot = none := by
        simp only [Addr.add, if_true, World.cell?] at h0
        split at h0
        · cases spot with
          | none => rfl
          | some x => simp at h0
        · cases h0
      subst hs
      refine ⟨b, off, rfl, ?_⟩
      rw [Addr.add_mid] at hi'
      rw [hi']
      have := wf_byte (hwz zs[i] (List.getElem_mem (by omega)))
      have h2 : zs.getD i 0 = zs[i] := by simp [List.getD, show i < zs.length by omega]
      rw [h2, Int.toNat_of_nonneg this.1]
end
/-! ### bits -/
theorem b63 {a : Nat} (ha : a < 9223372036854775808) : (BitVec.ofInt 64 (a : Int)).toNat = a := by
  rw [BitVec.ofInt_natCast, BitVec.toNat_ofNat]; exact Nat.mod_eq_of_lt (by omega)
theorem xor63 {a b : Nat} (ha : a < 9223372036854775808) (hb : b < 9223372036854775808) : a ^^^ b < 9223372036854775808 := Nat.xor_lt_two_pow (n := 63) ha hb
theorem or63 {a b : Nat} (ha : a < 9223372036854775808) (hb : b < 9223372036854775808) : a ||| b < 9223372036854775808 := Nat.or_lt_two_pow (n := 63) ha hb
theorem xor_int {a b : Nat} (ha : a < 9223372036854775808) (hb : b < 9223372036854775808) : bits .xor .i64 (a : Int) (b : Int) = ((a ^^^ b : Nat) : Int) := by
  have hx := xor63 ha hb
  show IntKind.i64.wrap ((BitVec.ofInt 64 (a : Int) ^^^ BitVec.ofInt 64 (b : Int)).toNat : Int) = _
  rw [BitVec.toNat_xor, b63 ha, b63 hb]
  exact wrap_i64 _ (by omega) (by omega)
theorem or_int {a b : Nat} (ha : a < 9223372036854775808) (hb : b < 9223372036854775808) : bits .or .i64 (a : Int) (b : Int) = ((a ||| b : Nat) : Int) := by
  have hx := or63 ha hb
  show IntKind.i64.wrap ((BitVec.ofInt 64 (a : Int) ||| BitVec.ofInt 64 (b : Int)).toNat : Int) = _
  rw [BitVec.toNat_or, b63 ha, b63 hb]
  exact wrap_i64 _ (by omega) (by omega)
theorem xor_nought {a b : Nat} : a ^^^ b = 0 ↔ a = b := by
  constructor
  · intro h
    have : a ^^^ (b ^^^ b) = b := by rw [← Nat.xor_assoc, h, Nat.zero_xor]
    rwa [Nat.xor_self, Nat.xor_zero] at this
  · rintro rfl; exact Nat.xor_self a
theorem xor_u8 {a b : Nat} (ha : a < 256) (hb : b < 256) : bits .xor .u8 (a : Int) (b : Int) = ((a ^^^ b : Nat) : Int) := by
  have hx : a ^^^ b < 256 := Nat.xor_lt_two_pow (n := 8) ha hb
  have h1 : (BitVec.ofInt 8 (a : Int)).toNat = a := by
    rw [BitVec.ofInt_natCast, BitVec.toNat_ofNat]; exact Nat.mod_eq_of_lt (by omega)
  have h2 : (BitVec.ofInt 8 (b : Int)).toNat = b := by
    rw [BitVec.ofInt_natCast, BitVec.toNat_ofNat]; exact Nat.mod_eq_of_lt (by omega)
  show IntKind.u8.wrap ((BitVec.ofInt 8 (a : Int) ^^^ BitVec.ofInt 8 (b : Int)).toNat : Int) = _
  rw [BitVec.toNat_xor, h1, h2]
  exact wrap_u8 _ (by omega) (by omega)
end Go.Proofs.YtkendlnjaopbeaaGreatDoor
