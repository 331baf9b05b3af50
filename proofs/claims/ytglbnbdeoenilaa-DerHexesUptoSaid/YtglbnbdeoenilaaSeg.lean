/- Structs as rows of segments. -/
import Derived.Test.YtglbnbdeoenilaaOwnB
namespace Go.Proofs.Ytglbnbdeoenilaa
open Go.RowKit
set_option linter.unusedVariables false
set_option linter.unusedSimpArgs false
/-- Segments: how many cells, and which. -/
abbrev Sg := List (Nat × Array Value)
def rwL (g : Sg) : List Value := (g.map fun s => s.2.toList).flatten
def rwA (g : Sg) : Array Value := (rwL g).toArray
def sumG : Sg → Nat
  | [] => 0
  | s :: r => s.1 + sumG r
/-- A segment of m cells. -/
class SegL (A : Array Value) (m : Nat) : Prop where
  size : A.size = m
  one : A.all (·.oneCell') = true
class SgOk (g : Sg) : Prop where
  out : ∀ s ∈ g, s.2.size = s.1 ∧ s.2.all (·.oneCell') = true
instance SgOk.nil : SgOk [] := ⟨fun _ h => by cases h⟩
instance SgOk.cons {A : Array Value} {m : Nat} {r : Sg} [h : SegL A m] [h' : SgOk r] : SgOk ((m, A) :: r) := ⟨fun s hs => by
  rcases List.mem_cons.1 hs with rfl | hs
  · exact ⟨h.size, h.one⟩
  · exact h'.out s hs⟩
theorem SgOk.head {s : Nat × Array Value} {r : Sg} (h : SgOk (s :: r)) : s.2.size = s.1 ∧ s.2.all (·.oneCell') = true := h.out s (by simp)
theorem SgOk.tail {s : Nat × Array Value} {r : Sg} (h : SgOk (s :: r)) : SgOk r := ⟨fun q hq => h.out q (by simp [hq])⟩
theorem rwL_cons (s : Nat × Array Value) (r : Sg) : rwL (s :: r) = s.2.toList ++ rwL r := rfl
theorem rwL_len : ∀ {g : Sg}, SgOk g → (rwL g).length = sumG g
  | [], _ => rfl
  | s :: r, h => by rw [rwL_cons, List.length_append, Array.length_toList, h.head.1, rwL_len h.tail]; rfl
theorem rw_size {g : Sg} (h : SgOk g) : (rwA g).size = sumG g := by rw [rwA, List.size_toArray, rwL_len h]
theorem rwL_one : ∀ {g : Sg}, SgOk g → (rwL g).all (·.oneCell') = true
  | [], _ => rfl
  | s :: r, h => by
    rw [rwL_cons, List.all_append, rwL_one h.tail, Bool.and_true]
    have := h.head.2
    rwa [← Array.all_toList] at this
theorem rw_one {g : Sg} (h : SgOk g) : (rwA g).all (·.oneCell') = true := by rw [rwA, List.all_toArray]; exact rwL_one h
def atL : Sg → Nat → Nat → Option (Array Value)
  | [], _, _ => none
  | s :: r, off, k => bif Nat.beq off 0 && Nat.beq k s.1 then some s.2 else bif Nat.ble s.1 off then atL r (off - s.1) k else none
def putG : Sg → Nat → Nat → Array Value → Option Sg
  | [], _, _, _ => none
  | s :: r, off, k, B => bif Nat.beq off 0 && Nat.beq k s.1 then some ((s.1, B) :: r) else bif Nat.ble s.1 off then (match putG r (off - s.1) k B with
    | some r' => some (s :: r')
    | none => none) else none
theorem atL_spec : ∀ {g : Sg} {off k : Nat} {B : Array Value}, SgOk g → atL g off k = some B → ((rwL g).drop off).take k = B.toList ∧ B.size = k ∧ off + k ≤ (rwL g).length
  | [], _, _, _, _, h => by cases h
  | s :: r, off, k, B, hok, h => by
    unfold atL at h
    have hs := hok.head.1
    by_cases h1 : (Nat.beq off 0 && Nat.beq k s.1) = true
    · rw [h1] at h
      simp only [cond_true, Option.some.injEq] at h
      subst h
      simp only [Bool.and_eq_true, Nat.beq_eq] at h1
      obtain ⟨rfl, rfl⟩ := h1
      refine ⟨?_, hs, by rw [rwL_cons, List.length_append, Array.length_toList, hs]; omega⟩
      rw [List.drop_zero, rwL_cons, List.take_append_of_le_length (by rw [Array.length_toList, hs]; exact Nat.le_refl _), List.take_of_length_le (by rw [Array.length_toList, hs]; exact Nat.le_refl _)]
    · rw [eq_false_of_ne_true h1, cond_false] at h
      by_cases h2 : Nat.ble s.1 off = true
      · rw [h2, cond_true] at h
        have hle := Nat.le_of_ble_eq_true h2
        obtain ⟨e1, e2, e3⟩ := atL_spec hok.tail h
        refine ⟨?_, e2, by rw [rwL_cons, List.length_append, Array.length_toList, hs]; omega⟩
        rw [rwL_cons, List.drop_append, Array.length_toList, hs, List.drop_of_length_le (by rw [Array.length_toList, hs]; exact hle), List.nil_append]
        exact e1
      · rw [eq_false_of_ne_true h2, cond_false] at h; cases h
theorem putG_spec : ∀ {g g' : Sg} {off k : Nat} {B : Array Value}, SgOk g → B.size = k → B.all (·.oneCell') = true → putG g off k B = some g' → putR (rwL g) off B.toList = rwL g' ∧ SgOk g' ∧ sumG g' = sumG g ∧ off + k ≤ sumG g
  | [], _, _, _, _, _, _, _, h => by cases h
  | s :: r, g', off, k, B, hok, hk, h1, h => by
    unfold putG at h
    have hs := hok.head.1
    by_cases c1 : (Nat.beq off 0 && Nat.beq k s.1) = true
    · rw [c1] at h
      simp only [cond_true, Option.some.injEq] at h
      subst h
      simp only [Bool.and_eq_true, Nat.beq_eq] at c1
      obtain ⟨rfl, rfl⟩ := c1
      refine ⟨?_, ⟨fun q hq => ?_⟩, rfl, by simp only [sumG]; omega⟩
      · unfold putR
        rw [rwL_cons, rwL_cons, List.take_zero, List.nil_append, Nat.zero_add, Array.length_toList, hk, List.drop_append, Array.length_toList, hs, List.drop_of_length_le (by rw [Array.length_toList, hs]; exact Nat.le_refl _), Nat.sub_self, List.drop_zero, List.nil_append]
      · rcases List.mem_cons.1 hq with rfl | hq
        · exact ⟨hk, h1⟩
        · exact hok.tail.out q hq
    · rw [eq_false_of_ne_true c1, cond_false] at h
      by_cases c2 : Nat.ble s.1 off = true
      · rw [c2, cond_true] at h
        have hle := Nat.le_of_ble_eq_true c2
        cases hp : putG r (off - s.1) k B with
        | none => rw [hp] at h; cases h
        | some r' =>
          rw [hp] at h
          simp only [Option.some.injEq] at h
          subst h
          obtain ⟨e1, e2, e3, e4⟩ := putG_spec hok.tail hk h1 hp
          refine ⟨?_, ⟨fun q hq => ?_⟩, by simp only [sumG, e3], by simp only [sumG]; omega⟩
          · rw [rwL_cons, rwL_cons, ← e1]
            unfold putR
            have e : s.2.toList.length = s.1 := by rw [Array.length_toList, hs]
            rw [List.take_append, e, List.take_of_length_le (by rw [e]; exact hle), List.drop_append, e, List.drop_of_length_le (by rw [e]; omega), List.nil_append, show off + B.toList.length - s.1 = off - s.1 + B.toList.length by omega, List.append_assoc, List.append_assoc, List.append_assoc]
          · rcases List.mem_cons.1 hq with rfl | hq
            · exact hok.head
            · exact e2.out q hq
      · rw [eq_false_of_ne_true c2, cond_false] at h; cases h
/-- A type's nought, in segments. -/
class ZG (P : Program) (t : Nat) (g : outParam Sg) : Prop where
  out : (P.info? t).bind (·.zero) = some (.agg (rwA g))
  ok : SgOk g
def bys (l : List Nat) : Array Value := (bl l).toArray
def w32 (l : List Nat) : Array Value := (l.map fun k : Nat => Value.int .u32 (k : Int)).toArray
theorem seg_bys {n : Nat} {l : List Nat} (h : l.length = n) : SegL (bys l) n := ⟨by simp [bys, bl_len, h], by simp [bys, bl, Value.oneCell']⟩
instance {l : List Nat} {i k : Nat} : PutC (bys l) i (.int .u8 (k : Int)) (bys (l.set i k)) := ⟨by simp [bys, putC, bl]⟩
theorem bys_get {l : List Nat} {i : Nat} (h : i < l.length) : (bys l)[i]? = some (.int .u8 ((l.getD i 0 : Nat) : Int)) := by simp [bys, bl, h, List.getD]
/-- Where a block stands. -/
class BlkAt (l : Blks) (n : Nat) (x : outParam (Array Value × TypeId)) : Prop where
  out : (n, x) ∈ l
instance {n : Nat} {x : Array Value × TypeId} {l : Blks} : BlkAt ((n, x) :: l) n x := ⟨List.mem_cons_self⟩
instance (priority := 900) {n : Nat} {x : Array Value × TypeId} {p : Nat × (Array Value × TypeId)} {l : Blks} [h : BlkAt l n x] : BlkAt (p :: l) n x := ⟨List.mem_cons_of_mem _ h.out⟩
instance (priority := 900) {n : Nat} {x : Array Value × TypeId} {ob l : Blks} [h : BlkAt l n x] : BlkAt (ob ++ l) n x := ⟨List.mem_append_right _ h.out⟩
class BLc (n : Nat) (p : List Nat) : Prop where
  out : BL n p
  small : n ≤ 1099511627776
instance {X : Cx} {l : Blks} {n k : Nat} {p : List Nat} {e : Nat} [h : BlkAt l n (bys p, e)] [h' : BLc k p] : VwB X l (.slice (some ⟨n, 0, none⟩) k k) k p := ⟨fun w hm => by
  have hg := hm.cls.now n (bys p) e (mu_mem_of h.out hm.nd)
  refine ⟨⟨⟨_, _, rfl, Nat.le_refl _, by have := h'.small; simp only [maxLen]; omega, fun _ => ⟨n, 0, rfl⟩⟩, fun j u hj => ⟨n, 0, k, rfl, ?_⟩⟩, h'.out⟩
  rw [cell_of_row w n (0 + j) (bys p) e _ hg, Nat.zero_add]
  simpa [bys] using hj⟩
theorem seg_w32 {n : Nat} {l : List Nat} (h : l.length = n) : SegL (w32 l) n := ⟨by simp [w32, h], by simp [w32, Value.oneCell']⟩
instance {k : IntKind} {z : Int} : SegL #[.int k z] 1 := ⟨rfl, by simp [Value.oneCell']⟩
instance {b : Bool} : SegL #[.bool b] 1 := ⟨rfl, by simp [Value.oneCell']⟩
theorem seg_rw {g : Sg} [h : SgOk g] {k : Nat} (hk : sumG g = k) : SegL (rwA g) k := ⟨by rw [rw_size h, hk], rw_one h⟩
section
variable {X : Cx} {s : Slots} {l : Blks} {o : Oper} {v : Value} {Q : Post} {ops : Array Oper} {r : List Oper}
theorem ld_sg {t b off k e : Nat} {g : Sg} {B : Array Value} [hu : KD X.P t true] [hs : SZ X.P t k] [hok : SgOk g] (hh : Has X l b (rwA g, e) := by first | (with_reducible assumption) | (refine Has.inn ?_; repeat (first | exact Inn.here | refine Inn.there ?_))) (ha : atL g off k = some B := by rfl) : Ld X l t b off (.agg B) := by
  obtain ⟨h1, h2, h3⟩ := atL_spec hok ha
  have := ld_row (X := X) (l := l) (t := t) (b := b) (off := off) (k := k) (c := rwA g) (cs := B.toList) hh (by rw [rwA]; exact h1) (by rw [Array.length_toList, h2])
  rwa [Array.toArray_toList] at this
theorem ld_sg1 {t b off e : Nat} {g : Sg} [hu : KD X.P t false] [hok : SgOk g] (hh : Has X l b (rwA g, e) := by first | (with_reducible assumption) | (refine Has.inn ?_; repeat (first | exact Inn.here | refine Inn.there ?_))) (ha : atL g off 1 = some #[v] := by rfl) : Ld X l t b off v := by
  obtain ⟨h1, h2, h3⟩ := atL_spec hok ha
  refine ld_cell (c := rwA g) hh ?_
  have := congrArg (·[0]?) h1
  simpa [rwA] using this
theorem ld_wholeG {t b k e : Nat} {g : Sg} [hu : KD X.P t true] [hs : SZ X.P t k] [hok : SgOk g] (hh : Has X l b (rwA g, e) := by first | (with_reducible assumption) | (refine Has.inn ?_; repeat (first | exact Inn.here | refine Inn.there ?_))) (hk : sumG g = k := by rfl) : Ld X l t b 0 (.agg (rwA g)) :=
  ld_whole hh (by rw [rw_size hok, hk])
theorem sv_sg {t k off b e : Nat} {x y : Operand} {g g' : Sg} {B : Array Value} {l' : Blks} (ho : o.op = .store t x y) (hx : val s x = some (.pointer (some ⟨b, off, none⟩))) (hy : val s y = some (.agg B))
    [hs : SZ X.P t k] [hok : SgOk g] [hB : SegL B k] (ha : At l b (rwA g, e) (rwA g', e) l' := by repeat (first | exact At.here | apply At.there)) (hp : putG g off k B = some g' := by rfl)  : Sv X s l o l' := by
  obtain ⟨h1, h2, h3, h4⟩ := putG_spec hok hB.size hB.one hp
  have hB' : Value.agg B = .agg B.toList.toArray := by rw [Array.toArray_toList]
  exact sv_row (cs := B.toList) (c := rwA g) (c' := rwL g') ho hx (by rw [hy, hB']) (hk := by rw [Array.length_toList, hB.size]) (h1 := by have := hB.one; rwa [← Array.all_toList] at this) (hc := by rw [rwA, ← h1]) ha (hlt := by rw [Array.length_toList, hB.size, rw_size hok]; exact h4)
theorem sv_sg1 {t off b e : Nat} {x y : Operand} {g g' : Sg} {l' : Blks} (ho : o.op = .store t x y) (hx : val s x = some (.pointer (some ⟨b, off, none⟩))) (hy : val s y = some v)
    [hs : SZ X.P t 1] [hok : SgOk g] [hB : SegL #[v] 1] (ha : At l b (rwA g, e) (rwA g', e) l' := by repeat (first | exact At.here | apply At.there)) (hp : putG g off 1 #[v] = some g' := by rfl)  : Sv X s l o l' := by
  obtain ⟨h1, h2, h3, h4⟩ := putG_spec hok hB.size hB.one hp
  have hv : v.oneCell' = true := by have := hB.one; simpa using this
  have hlt : off < (rwA g).size := by rw [rw_size hok]; omega
  refine sv_cell (c := rwA g) (c' := rwA g') ho hx hy hv ha (hc := ?_) (hlt := hlt)
  unfold putC rwA
  rw [← h1]
  unfold putR
  have hlt' : off < (rwL g).length := by rw [rwL_len hok]; omega
  simp only [List.setIfInBounds_toArray, List.length_cons, List.length_nil]
  congr 1
  rw [List.set_eq_take_append_cons_drop, if_pos hlt']
  simp
theorem sv_wholeG {t k b e : Nat} {x y : Operand} {g g' : Sg} {l' : Blks} (ho : o.op = .store t x y) (hx : val s x = some (.pointer (some ⟨b, 0, none⟩))) (hy : val s y = some (.agg (rwA g')))
    [hs : SZ X.P t k] [hok : SgOk g] [hok' : SgOk g'] (ha : At l b (rwA g, e) (rwA g', e) l' := by repeat (first | exact At.here | apply At.there)) (hk : sumG g' = k := by rfl) (hk' : sumG g = k := by rfl)  : Sv X s l o l' :=
  sv_whole ho hx hy (hk := by rw [rw_size hok', hk]) (h1 := rw_one hok') ha (hlt := by rw [rw_size hok, rw_size hok', hk, hk'])
theorem mk_allocG {t : Nat} {g : Sg} (ho : o.op = .alloc t) [hz : ZG X.P t g] : Mk X s o (rwA g) t ptr := by
  haveI : ZR X.P t (.agg (rwA g)) := ⟨hz.out⟩
  exact mk_alloc ho rfl
theorem rd_fieldG {t f fo ty k : Nat} {x : Operand} {g : Sg} {B : Array Value} (ho : o.op = .field t x f) (hx : val s x = some (.agg (rwA g))) [hf : FD X.P t f fo ty k] [hu : KD X.P ty true] [hs : SZ X.P ty k] [hok : SgOk g] (ha : atL g fo k = some B := by rfl) : RdV X s l o (.agg B) := by
  obtain ⟨h1, h2, h3⟩ := atL_spec hok ha
  refine rd_field ho hx fun w => ?_
  have := part_row (P := X.P) (t := ty) (off := fo) (cs := rwA g) (cs' := B.toList) (by rw [rwA]; exact h1) w
  rwa [Array.toArray_toList] at this
theorem rd_fieldG1 {t f fo ty k : Nat} {x : Operand} {g : Sg} (ho : o.op = .field t x f) (hx : val s x = some (.agg (rwA g))) [hf : FD X.P t f fo ty k] [hu : KD X.P ty false] [hok : SgOk g] (ha : atL g fo 1 = some #[v] := by rfl) : RdV X s l o v := by
  obtain ⟨h1, h2, h3⟩ := atL_spec hok ha
  refine rd_field ho hx fun w => part_cell ?_ w
  have := congrArg (·[0]?) h1
  simpa [rwA] using this
/-- Fields put into a nought. -/
def putsG (pl : List (Nat × Nat)) : Sg → List (Nat × Value) → Option Sg
  | g, [] => some g
  | g, (i, v) :: r => match pl[i]? with
    | none => none
    | some q => bif v.cells.size == q.2 then (match putG g q.1 q.2 v.cells with
      | some g' => putsG pl g' r
      | none => none) else none
theorem putsG_spec {pl : List (Nat × Nat)} : ∀ {vs : List (Nat × Value)} {g g' : Sg}, SgOk g → (∀ p ∈ vs, p.2.cells.all (·.oneCell') = true) → putsG pl g vs = some g' → fillC (fun i => pl[i]?) (rwL g) vs = some (rwL g') ∧ SgOk g'
  | [], g, g', hok, _, h => by cases h; exact ⟨rfl, hok⟩
  | (i, v) :: r, g, g', hok, h1, h => by
    unfold putsG at h
    unfold fillC
    cases hp : pl[i]? with
    | none => simp [hp] at h
    | some q =>
      simp only [hp] at h ⊢
      by_cases c : (v.cells.size == q.2) = true
      · rw [c, cond_true] at h
        cases hg : putG g q.1 q.2 v.cells with
        | none => rw [hg] at h; cases h
        | some g1 =>
          rw [hg] at h
          simp only at h
          obtain ⟨e1, e2, e3, e4⟩ := putG_spec hok (by simpa using c) (h1 (i, v) (by simp)) hg
          have hb : Nat.ble (q.1 + q.2) (rwL g).length = true := Nat.ble_eq_true_of_le (by rw [rwL_len hok]; exact e4)
          rw [c, hb, Bool.and_self, cond_true, e1]
          exact putsG_spec e2 (fun p hp => h1 p (by simp [hp])) h
      · rw [eq_false_of_ne_true c, cond_false] at h; cases h
theorem rd_buildG {t : Nat} {ps : Array (Nat × Operand)} {vs : List (Nat × Value)} {pl : List (Nat × Nat)} {g0 g : Sg} (ho : o.op = .build t ps) (hx : valsP s ps.toList = some vs) [ht : SP X.P t pl] [hz : ZG X.P t g0]
    (hc : putsG pl g0 vs = some g) (h1 : ∀ p ∈ vs, p.2.cells.all (·.oneCell') = true) : RdV X s l o (.agg (rwA g)) := by
  haveI : ZR X.P t (.agg (rwA g0)) := ⟨hz.out⟩
  exact rd_buildS ho hx (by rw [rwA]; exact (putsG_spec hz.ok h1 hc).1)
/-- One cell of a segment. -/
theorem ld_sgC {t b off e p m j : Nat} {g : Sg} {A : Array Value} [hu : KD X.P t false] [hok : SgOk g] (hh : Has X l b (rwA g, e) := by first | (with_reducible assumption) | (refine Has.inn ?_; repeat (first | exact Inn.here | refine Inn.there ?_))) (ha : atL g p m = some A := by rfl) (ho : p + j = off := by first | (with_reducible assumption) | rfl | omega) (hv : A[j]? = some v := by first | (with_reducible assumption)) : Ld X l t b off v := by
  obtain ⟨h1, h2, h3⟩ := atL_spec hok ha
  subst ho
  have hj : j < m := by rw [← h2]; exact (Array.getElem?_eq_some_iff.1 hv).1
  refine ld_cell (c := rwA g) hh ?_
  have := congrArg (·[j]?) h1
  simp only [List.getElem?_take_of_lt hj, List.getElem?_drop] at this
  rw [rwA, List.getElem?_toArray, this]
  simpa using hv
theorem sv_sgC {t off b e p m j : Nat} {x y : Operand} {g g' : Sg} {A A' : Array Value} {l' : Blks} (ho : o.op = .store t x y) (hx : val s x = some (.pointer (some ⟨b, off, none⟩))) (hy : val s y = some v)
    [hs : SZ X.P t 1] [hok : SgOk g] (h1 : v.oneCell' = true) (hat : At l b (rwA g, e) (rwA g', e) l' := by repeat (first | exact At.here | apply At.there)) (ha : atL g p m = some A := by rfl) (hof : p + j = off := by first | (with_reducible assumption) | rfl | omega) (hc : putC A j v = A' := by first | (with_reducible assumption) | exact PutC.out) (hj : j < m := by first | (with_reducible assumption) | omega)
    (hp : putG g p m A' = some g' := by rfl)  : Sv X s l o l' := by
  obtain ⟨e1, e2, e3⟩ := atL_spec hok ha
  subst hof; subst hc
  have hA : A.all (·.oneCell') = true := by
    rw [← Array.all_toList, ← e1, List.all_eq_true]
    intro q hq
    exact (List.all_eq_true.1 (rwL_one hok)) q (List.mem_of_mem_drop (List.mem_of_mem_take hq))
  have hB : SegL (putC A j v) m := ⟨by simp [putC, e2], by
    rw [← Array.all_toList, List.all_eq_true]
    intro q hq
    simp only [putC, Array.toList_setIfInBounds] at hq
    rcases List.mem_or_eq_of_mem_set hq with h | h
    · exact (List.all_eq_true.1 (by rw [Array.all_toList]; exact hA)) q h
    · rw [h]; exact h1⟩
  obtain ⟨f1, f2, f3, f4⟩ := putG_spec hok hB.size hB.one hp
  have hlen : A.toList.length = m := by rw [Array.length_toList, e2]
  refine sv_cell (c := rwA g) (c' := rwA g') ho hx hy h1 hat (hc := ?_) (hlt := by rw [rw_size hok]; omega)
  unfold putC rwA
  rw [← f1]
  unfold putR
  simp only [List.setIfInBounds_toArray]
  congr 1
  have hpl : p + j < (rwL g).length := by omega
  apply List.ext_getElem?
  intro i
  have hAi : ∀ k, k < m → A.toList[k]? = (rwL g)[p + k]? := fun k hk => by rw [← e1, List.getElem?_take_of_lt hk, List.getElem?_drop]
  have hlA : (A.toList.set j v).length = m := by rw [List.length_set, hlen]
  have htk : ((rwL g).take p).length = p := by rw [List.length_take]; omega
  simp only [putC, Array.toList_setIfInBounds]
  rw [hlA, List.getElem?_set]
  by_cases c1 : i < p
  · rw [if_neg (by omega), List.append_assoc, List.getElem?_append_left (by omega), List.getElem?_take_of_lt c1]
  · by_cases c2 : i < p + m
    · rw [List.append_assoc, List.getElem?_append_right (by omega), htk, List.getElem?_append_left (by omega), List.getElem?_set, hlen]
      by_cases c3 : j = i - p
      · rw [if_pos (by omega), if_pos c3, if_pos hpl, if_pos hj]
      · rw [if_neg (by omega), if_neg c3, hAi _ (by omega)]; congr 1; omega
    · rw [if_neg (by omega), List.append_assoc, List.getElem?_append_right (by omega), htk, List.getElem?_append_right (by omega), hlA, List.getElem?_drop]; congr 1; omega
end
end Go.Proofs.Ytglbnbdeoenilaa
