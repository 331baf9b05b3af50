/- Rows of numbers: structs whose fields are numbers (a point, a quad, a pair). -/
import Derived.Test.YtglbnbdeoenilaaNuA
import Derived.Test.YtglbnbdeoenilaaNuLit
namespace Go.Proofs.Ytglbnbdeoenilaa
open Go.RowKit
set_option maxRecDepth 100000
set_option linter.unusedVariables false
set_option linter.unusedSimpArgs false
def rowC : List Nat → Array Value
  | [] => #[]
  | x :: r => numC x ++ rowC r
abbrev ro (l : List Nat) : Value := .agg (rowC l)
theorem rowC_size (l : List Nat) : (rowC l).size = 4 * l.length := by
  induction l with
  | nil => rfl
  | cons x r ih => unfold rowC; rw [Array.size_append, ih, (numC_cells x).size, List.length_cons]; omega
theorem rowC_one (l : List Nat) : (rowC l).all (·.oneCell') = true := by
  induction l with
  | nil => unfold rowC; simp
  | cons x r ih => unfold rowC; rw [Array.all_append, (numC_cells x).one, ih]; rfl
instance rowC_cells2 (x y : Nat) : Cells (rowC [x, y]) 8 := ⟨rowC_size _, rowC_one _⟩
instance rowC_cells4 (x y z t : Nat) : Cells (rowC [x, y, z, t]) 16 := ⟨rowC_size _, rowC_one _⟩
/-- The number that begins there. -/
def numAt : List Nat → Nat → Option Nat
  | [], _ => none
  | x :: _, 0 => some x
  | _ :: r, n + 4 => numAt r n
  | _ :: _, _ => none
def setAt : List Nat → Nat → Nat → List Nat
  | [], _, _ => []
  | _ :: r, 0, y => y :: r
  | x :: r, n + 4, y => x :: setAt r n y
  | l, _, _ => l
theorem numC_len (x : Nat) : (numC x).toList.length = 4 := by rw [Array.length_toList]; exact (numC_cells x).size
theorem numAt_part : ∀ (l : List Nat) (off x : Nat), numAt l off = some x → ((rowC l).toList.drop off).take 4 = (numC x).toList
  | [], _, _, h => by cases h
  | y :: r, 0, x, h => by
    cases h
    unfold rowC
    rw [List.drop_zero, Array.toList_append, List.take_append_of_le_length (by rw [numC_len]; exact Nat.le_refl _), List.take_of_length_le (by rw [numC_len]; exact Nat.le_refl _)]
  | y :: r, n + 4, x, h => by
    have ih := numAt_part r n x h
    unfold rowC
    rw [Array.toList_append, List.drop_append, List.drop_of_length_le (by rw [numC_len]; omega), List.nil_append, numC_len, Nat.add_sub_cancel]
    exact ih
  | _ :: _, 1, _, h => by cases h
  | _ :: _, 2, _, h => by cases h
  | _ :: _, 3, _, h => by cases h
theorem setAt_part : ∀ (l : List Nat) (off x y : Nat), numAt l off = some x → putR (rowC l).toList off (numC y).toList = (rowC (setAt l off y)).toList
  | [], _, _, _, h => by cases h
  | z :: r, 0, x, y, h => by
    cases h
    unfold setAt rowC putR
    rw [List.take_zero, List.nil_append, numC_len, Nat.zero_add, Array.toList_append, Array.toList_append, List.drop_append, numC_len, Nat.sub_self, List.drop_zero, List.drop_of_length_le (by rw [numC_len]; exact Nat.le_refl _), List.nil_append]
  | z :: r, n + 4, x, y, h => by
    have ih := setAt_part r n x y h
    show putR (rowC (z :: r)).toList (n + 4) (numC y).toList = (rowC (z :: setAt r n y)).toList
    unfold putR at ih ⊢
    unfold rowC
    rw [Array.toList_append, Array.toList_append, ← ih]
    rw [List.take_append, List.take_of_length_le (by rw [numC_len]; omega), List.drop_append, numC_len, numC_len, List.drop_of_length_le (by rw [numC_len]; omega), List.nil_append, show n + 4 - 4 = n by omega, show n + 4 + 4 - 4 = n + 4 by omega]
    simp only [List.append_assoc]
  | _ :: _, 1, _, _, h => by cases h
  | _ :: _, 2, _, _, h => by cases h
  | _ :: _, 3, _, _, h => by cases h
section
variable {X : Cx} {s : Slots} {l : Blks} {o : Oper} {v : Value}
theorem ld_num {t b off : Nat} {L : List Nat} {x e : Nat} [hu : KD X.P t true] [hs : SZ X.P t 4]
    (hh : Has X l b (rowC L, e) := by first | (with_reducible assumption) | (refine Has.inn ?_; repeat (first | exact Inn.here | refine Inn.there ?_))) (hv : numAt L off = some x := by rfl) : Ld X l t b off (nu x) := by
  have := ld_row (X := X) (l := l) (t := t) (b := b) (off := off) (k := 4) (cs := (numC x).toList) hh (numAt_part L off x hv) (numC_len x)
  simpa using this
theorem sv_num {t : Nat} {x y : Operand} {b off : Nat} {L L' : List Nat} {u z e : Nat} {l' : Blks} (ho : o.op = .store t x y) (hx : val s x = some (.pointer (some ⟨b, off, none⟩))) (hy : val s y = some (nu u))
    [hs : SZ X.P t 4] (ha : At l b (rowC L, e) (rowC L', e) l' := by repeat (first | exact At.here | apply At.there)) (hv : numAt L off = some z := by rfl) (hL : setAt L off u = L' := by first | (dsimp only [setAt]; exact rfl) | rfl) : Sv X s l o l' := by
  subst hL
  have hb : ∀ (l : List Nat) (off z : Nat), numAt l off = some z → off + 4 ≤ 4 * l.length := by
    intro l
    induction l with
    | nil => intro off z h; cases h
    | cons y r ih =>
      intro off z h
      match off, h with
      | 0, _ => simp only [List.length_cons]; omega
      | n + 4, h => have := ih n z h; simp only [List.length_cons]; omega
  refine sv_row (cs := (numC u).toList) (c' := (rowC (setAt L off u)).toList) ho hx (by simpa using hy) (by have := (numC_cells u).one; simpa using this) (numC_len u) (by simpa using ha) (setAt_part L off z u hv) ?_
  rw [numC_len, rowC_size]
  exact hb L off z hv
theorem sv_num0 {t : Nat} {x y : Operand} {b : Nat} {p q u e : Nat} {l' : Blks} (ho : o.op = .store t x y) (hx : val s x = some (.pointer (some ⟨b, 0, none⟩))) (hy : val s y = some (nu u))
    [hs : SZ X.P t 4] (ha : At l b (rowC [p, q], e) (rowC [u, q], e) l' := by repeat (first | exact At.here | apply At.there)) : Sv X s l o l' := sv_num (L := [p, q]) (L' := [u, q]) (z := p) ho hx hy ha rfl rfl
theorem sv_num4 {t : Nat} {x y : Operand} {b : Nat} {p q u e : Nat} {l' : Blks} (ho : o.op = .store t x y) (hx : val s x = some (.pointer (some ⟨b, 4, none⟩))) (hy : val s y = some (nu u))
    [hs : SZ X.P t 4] (ha : At l b (rowC [p, q], e) (rowC [p, u], e) l' := by repeat (first | exact At.here | apply At.there)) : Sv X s l o l' := sv_num (L := [p, q]) (L' := [p, u]) (z := q) ho hx hy ha rfl rfl
theorem numC_zero : (numC 0).toList = [.int .u64 0, .int .u64 0, .int .u64 0, .int .u64 0] := by
  unfold numC limb; simp
theorem numC_four (x : Nat) : ∃ a b c d, (numC x).toList = [a, b, c, d] ∧ numC x = #[a, b, c, d] := ⟨_, _, _, _, by unfold numC; rfl, by unfold numC; rfl⟩
theorem fill_xy (x y : Nat) : fillC (fun i => [((0 : Nat), (4 : Nat)), (4, 4)][i]?) [.int .u64 0, .int .u64 0, .int .u64 0, .int .u64 0, .int .u64 0, .int .u64 0, .int .u64 0, .int .u64 0] [(0, nu x), (1, nu y)] = some (rowC [x, y]).toList := by
  obtain ⟨a, b, c, d, h, h'⟩ := numC_four x
  obtain ⟨a2, b2, c2, d2, k, k'⟩ := numC_four y
  simp [fillC, putR, rowC, Value.cells, h', k']
  rfl
theorem fill_y (y : Nat) : fillC (fun i => [((0 : Nat), (4 : Nat)), (4, 4)][i]?) [.int .u64 0, .int .u64 0, .int .u64 0, .int .u64 0, .int .u64 0, .int .u64 0, .int .u64 0, .int .u64 0] [(1, nu y)] = some (rowC [0, y]).toList := by
  obtain ⟨a2, b2, c2, d2, k, k'⟩ := numC_four y
  have z := numC_zero
  simp [fillC, putR, rowC, Value.cells, k', z]
  rfl
theorem fill_x (x : Nat) : fillC (fun i => [((0 : Nat), (4 : Nat)), (4, 4)][i]?) [.int .u64 0, .int .u64 0, .int .u64 0, .int .u64 0, .int .u64 0, .int .u64 0, .int .u64 0, .int .u64 0] [(0, nu x)] = some (rowC [x, 0]).toList := by
  obtain ⟨a2, b2, c2, d2, k, k'⟩ := numC_four x
  have z := numC_zero
  simp [fillC, putR, rowC, Value.cells, k', z]
  rfl
theorem fill_0 : fillC (fun i => [((0 : Nat), (4 : Nat)), (4, 4)][i]?) [.int .u64 0, .int .u64 0, .int .u64 0, .int .u64 0, .int .u64 0, .int .u64 0, .int .u64 0, .int .u64 0] [] = some (rowC [0, 0]).toList := by
  have z := numC_zero
  simp [fillC, putR, rowC, Value.cells, z]
theorem fill_4 (x y z t : Nat) : fillC (fun i => [((0 : Nat), (4 : Nat)), (4, 4), (8, 4), (12, 4)][i]?) [.int .u64 0, .int .u64 0, .int .u64 0, .int .u64 0, .int .u64 0, .int .u64 0, .int .u64 0, .int .u64 0, .int .u64 0, .int .u64 0, .int .u64 0, .int .u64 0, .int .u64 0, .int .u64 0, .int .u64 0, .int .u64 0] [(0, nu x), (1, nu y), (2, nu z), (3, nu t)] = some (rowC [x, y, z, t]).toList := by
  obtain ⟨a, b, c, d, h, h'⟩ := numC_four x
  obtain ⟨a2, b2, c2, d2, k, k'⟩ := numC_four y
  obtain ⟨a3, b3, c3, d3, m, m'⟩ := numC_four z
  obtain ⟨a4, b4, c4, d4, n, n'⟩ := numC_four t
  simp [fillC, putR, rowC, Value.cells, h', k', m', n']
  rfl
/-- A struct of two, or four, numbers. -/
class R2 (P : Program) (t : Nat) : Prop where
  sp : SP P t [(0, 4), (4, 4)]
  zr : ZR P t (.agg #[.int .u64 0, .int .u64 0, .int .u64 0, .int .u64 0, .int .u64 0, .int .u64 0, .int .u64 0, .int .u64 0])
class R4 (P : Program) (t : Nat) : Prop where
  sp : SP P t [(0, 4), (4, 4), (8, 4), (12, 4)]
  zr : ZR P t (.agg #[.int .u64 0, .int .u64 0, .int .u64 0, .int .u64 0, .int .u64 0, .int .u64 0, .int .u64 0, .int .u64 0, .int .u64 0, .int .u64 0, .int .u64 0, .int .u64 0, .int .u64 0, .int .u64 0, .int .u64 0, .int .u64 0])
theorem rd_build2 {t : Nat} {ps : Array (Nat × Operand)} {x y : Nat} (ho : o.op = .build t ps) (hx : valsP s ps.toList = some [(0, nu x), (1, nu y)]) [h : R2 X.P t] : RdV X s l o (ro [x, y]) := by
  have := @rd_buildS X s l o t ps _ _ _ _ ho hx h.sp h.zr (fill_xy x y)
  simpa using this
theorem rd_build2y {t : Nat} {ps : Array (Nat × Operand)} {y : Nat} (ho : o.op = .build t ps) (hx : valsP s ps.toList = some [(1, nu y)]) [h : R2 X.P t] : RdV X s l o (ro [0, y]) := by
  have := @rd_buildS X s l o t ps _ _ _ _ ho hx h.sp h.zr (fill_y y)
  simpa using this
theorem rd_build2x {t : Nat} {ps : Array (Nat × Operand)} {x : Nat} (ho : o.op = .build t ps) (hx : valsP s ps.toList = some [(0, nu x)]) [h : R2 X.P t] : RdV X s l o (ro [x, 0]) := by
  have := @rd_buildS X s l o t ps _ _ _ _ ho hx h.sp h.zr (fill_x x)
  simpa using this
theorem rd_build20 {t : Nat} {ps : Array (Nat × Operand)} (ho : o.op = .build t ps) (hx : valsP s ps.toList = some []) [h : R2 X.P t] : RdV X s l o (ro [0, 0]) := by
  have := @rd_buildS X s l o t ps _ _ _ _ ho hx h.sp h.zr fill_0
  simpa using this
theorem rd_build4 {t : Nat} {ps : Array (Nat × Operand)} {x y z q : Nat} (ho : o.op = .build t ps) (hx : valsP s ps.toList = some [(0, nu x), (1, nu y), (2, nu z), (3, nu q)]) [h : R4 X.P t] : RdV X s l o (ro [x, y, z, q]) := by
  have := @rd_buildS X s l o t ps _ _ _ _ ho hx h.sp h.zr (fill_4 x y z q)
  simpa using this
end
/-- A new one: all 0. -/
theorem zc_r2 {P : Program} {t : Nat} (h : R2 P t) : ZC P t (rowC [0, 0]) := ⟨by
  rw [h.zr.out]
  have z := numC_zero
  show some _ = some _
  congr 1
  apply Array.ext'
  simp [rowC, Value.cells, z]⟩
theorem zc_r4 {P : Program} {t : Nat} (h : R4 P t) : ZC P t (rowC [0, 0, 0, 0]) := ⟨by
  rw [h.zr.out]
  have z := numC_zero
  show some _ = some _
  congr 1
  apply Array.ext'
  simp [rowC, Value.cells, z]⟩
theorem rowC_two (a b : Nat) : (rowC [a, b]).toList = (numC a).toList ++ (numC b).toList := by
  unfold rowC rowC rowC
  simp
attribute [irreducible] rowC
end Go.Proofs.Ytglbnbdeoenilaa
