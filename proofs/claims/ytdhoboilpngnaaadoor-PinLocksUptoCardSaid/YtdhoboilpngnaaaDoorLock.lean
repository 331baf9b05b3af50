/- The package pin, walked: a lock. -/
import Derived.Test.YtdhoboilpngnaaaDoorPin
import Derived.Test.YtdhoboilpngnaaaDoorPn
namespace Go.Proofs.YtdhoboilpngnaaaDoor
open Go.RowKit
set_option linter.unusedVariables false
set_option linter.unusedSimpArgs false
theorem ptr_nil {n : Nat} (w : World) : (Op.equalIn 10000 67 (ptr n) (.pointer none)).run Tryd.prog w = .ok false w := by
  have h : Tryd.prog.underlying 67 = some (.pointer 101) := by kernel_rfl
  rw [show (10000 : Nat) = 9999 + 1 from rfl, Op.equalIn, Sem.run_bind, run_underlying h]
  rfl
theorem ptr_nil2 (w : World) : (Op.equalIn 10000 67 (.pointer none) (.pointer none)).run Tryd.prog w = .ok true w := by
  have h : Tryd.prog.underlying 67 = some (.pointer 101) := by kernel_rfl
  rw [show (10000 : Nat) = 9999 + 1 from rfl, Op.equalIn, Sem.run_bind, run_underlying h]
  rfl
/-- A lock's cells: the salt, the mark, how many tries are left. -/
abbrev sgK (mk : List Nat) (lf : Nat) : Sg := [(32, bys mk), (1, #[.int .i64 (lf : Int)])]
abbrev sgL (sv : Value) (mk : List Nat) (lf : Nat) : Sg := [(1, #[sv]), (32, bys mk), (1, #[.int .i64 (lf : Int)])]
abbrev sgN (sv : Value) (mk : List Nat) (lf : Nat) : Sg := [(1, #[sv]), (33, rwA (sgK mk lf))]
theorem sg_flat (sv : Value) (mk : List Nat) (lf : Nat) : rwA (sgL sv mk lf) = rwA (sgN sv mk lf) := by simp [rwA, rwL]
theorem seg_one {v : Value} (h : v.oneCell' = true) : SegL #[v] 1 := ⟨rfl, by simp [h]⟩
instance (priority := 500) {v : Value} [h : One v] : SegL #[v] 1 := seg_one h.out
instance {mk : List Nat} {z : Int} [NBy mk 32] : SegL (rwA [(32, bys mk), (1, #[.int .i64 z])]) 33 := seg_rw rfl
instance {mk : List Nat} {z : Int} [NBy mk 32] : Cells (rwA [(32, bys mk), (1, #[.int .i64 z])]) 33 := ⟨rw_size inferInstance, rw_one inferInstance⟩
set_option maxRecDepth 100000 in
instance zg_lock : ZG Tryd.prog 73 (sgK (List.replicate 32 0) 0) := ⟨by kernel_rfl, inferInstance⟩
instance one_nil : One (.slice none 0 0) := ⟨rfl⟩
set_option maxRecDepth 100000 in
instance zg_pin : ZG Tryd.prog 101 (sgN (.slice none 0 0) (List.replicate 32 0) 0) := ⟨by kernel_rfl, inferInstance⟩
/-- The mark's slice. -/
instance {X : Cx} {l : Blks} {g : Nat} {p : List Nat} {e lf : Nat} {sv : Value} [hs : One sv] [hn : NBy p 32] [h : BlkAt l g (rwA (sgL sv p lf), e)] [h' : BLc 32 p] : VwB X l (.slice (some ⟨g, 1, none⟩) 32 32) 32 p := ⟨fun w hm => by
  have hg := hm.cls.now g (rwA (sgL sv p lf)) e (mu_mem_of h.out hm.nd)
  refine ⟨⟨⟨_, _, rfl, Nat.le_refl _, by simp only [maxLen]; omega, fun _ => ⟨g, 1, rfl⟩⟩, fun j u hj => ⟨g, 1, 32, rfl, ?_⟩⟩, h'.out⟩
  rw [cell_of_row w g (1 + j) (rwA (sgL sv p lf)) e _ hg]
  have hl : (bl p).length = 32 := by rw [bl_len, hn.out]
  have hj' := (List.getElem?_eq_some_iff.1 hj).1
  simp only [rwA, rwL, List.map_cons, List.flatten_cons, bys, List.getElem?_toArray]
  rw [List.getElem?_append_right (by simp), List.getElem?_append_left (by simp; omega)]
  simpa using hj⟩
/-- Equal to itself. -/
theorem lock_fields : ∃ f0 f1 : Field, (Tryd.prog.fieldsOf 73).toList = [f0, f1] ∧ decide (f0.name ≠ "_") = true ∧ decide (f1.name ≠ "_") = true ∧ f0.type = 30 ∧ f1.type = 3 ∧ f0.offset = 0 ∧ f1.offset = 32 :=
  ⟨(Tryd.prog.fieldsOf 73)[0]!, (Tryd.prog.fieldsOf 73)[1]!, by kernel_rfl, by decide +kernel, by decide +kernel, by kernel_rfl, by kernel_rfl, by kernel_rfl, by kernel_rfl⟩
theorem eql_bysD (d : Nat) {a : List Nat} (ha : a.length = 32) (w : World) : (Op.equalIn (d + 2) 30 (.agg (bys a)) (.agg (bys a))).run Tryd.prog w = .ok true w := by
  have h := eql_ints (P := Tryd.prog) (t := 30) (e := 5) (k := .u8) (k' := .u8) w d 32 (a.map fun k : Nat => (k : Int)) (a.map fun k : Nat => (k : Int)) (by kernel_rfl) (by kernel_rfl) (by kernel_rfl) (by kernel_rfl) (by kernel_rfl) (by simp [ha]) (by simp [ha])
  rw [← bys_Z] at h
  rw [h]; simp
theorem lk_a0 (A : Array Value) (mk : List Nat) (lf : Nat) (hl : (bl mk).length = 32) (hA : A.toList = bl mk ++ [.int .i64 (lf : Int)]) (w : World) : (part 30 A 0).run Tryd.prog w = .ok (.agg (bys mk)) w := by
    exact part_row (P := Tryd.prog) (t := 30) (off := 0) (k := 32) (cs := A) (cs' := bl mk) (by rw [hA, List.drop_zero]; exact List.take_left' hl) w
theorem lk_a1 (A : Array Value) (mk : List Nat) (lf : Nat) (hl : (bl mk).length = 32) (hA : A.toList = bl mk ++ [.int .i64 (lf : Int)]) (w : World) : (part 3 A 32).run Tryd.prog w = .ok (.int .i64 (lf : Int)) w :=
    run_part_plain (P := Tryd.prog) w (by kernel_rfl) (by rw [← Array.getElem?_toList, hA, List.getElem?_append_right (by omega), hl]; rfl)
theorem lk_e1 (d lf : Nat) (w : World) : (Op.equalIn (d + 2) 3 (.int .i64 (lf : Int)) (.int .i64 (lf : Int))).run Tryd.prog w = .ok true w := by
    have := run_equalIn_int (P := Tryd.prog) w (d + 1) 3 .i64 .i64 (lf : Int) (lf : Int) (by kernel_rfl)
    rwa [beq_self_eq_true] at this
theorem lk_st (d : Nat) (A : Array Value) (f0 f1 : Field) (hf : (Tryd.prog.fieldsOf 73).toList = [f0, f1]) (w : World) : (Op.equalIn (d + 3) 73 (.agg A) (.agg A)).run Tryd.prog w = (Op.eqFields (d + 2) A A [f0, f1]).run Tryd.prog w := by
  rw [run_equalIn_struct w (d + 2) _ _ _ (by kernel_rfl) (by kernel_rfl), hf]
theorem lk_fin {P : Program} (d : Nat) (A : Array Value) (f0 f1 : Field) (x y : Value) (a b : Nat) (w : World) (n0' : f0.name ≠ "_") (n1' : f1.name ≠ "_") (t0 : f0.type = a) (t1 : f1.type = b) (o0 : f0.offset = 0) (o1 : f1.offset = 32)
    (a0 : (part a A 0).run P w = .ok x w) (a1 : (part b A 32).run P w = .ok y w) (e0 : (Op.equalIn d a x x).run P w = .ok true w) (e1 : (Op.equalIn d b y y).run P w = .ok true w) : (Op.eqFields d A A [f0, f1]).run P w = .ok true w := by
  simp only [Op.eqFields, n0', n1', t0, t1, o0, o1, not_false_eq_true, ne_eq, if_true, if_false, Sem.run_bind, a0, a1, Result.andThen_ok, e0, e1, Bool.not_true, Bool.not_false, Bool.false_eq_true, Sem.run_pure]
theorem eq_lockD (d : Nat) (mk : List Nat) (lf : Nat) (hm : mk.length = 32) (w : World) : (Op.equalIn (d + 3) 73 (.agg (rwA (sgK mk lf))) (.agg (rwA (sgK mk lf)))).run Tryd.prog w = .ok true w := by
  obtain ⟨f0, f1, hf, n0, n1, t0, t1, o0, o1⟩ := lock_fields
  have hl : (bl mk).length = 32 := by rw [bl_len, hm]
  have hA : (rwA (sgK mk lf)).toList = bl mk ++ [.int .i64 (lf : Int)] := by simp [rwA, rwL, bys]
  rw [lk_st d _ f0 f1 hf]
  exact lk_fin (d + 2) _ f0 f1 _ _ _ _ w (of_decide_eq_true n0) (of_decide_eq_true n1) t0 t1 o0 o1 (lk_a0 _ mk lf hl hA w) (lk_a1 _ mk lf hl hA w) (eql_bysD d hm w) (lk_e1 d lf w)
theorem eq_lock (mk : List Nat) (lf : Nat) (hm : mk.length = 32) (w : World) : (Op.equalIn 10000 73 (.agg (rwA (sgK mk lf))) (.agg (rwA (sgK mk lf)))).run Tryd.prog w = .ok true w := eq_lockD 9997 mk lf hm w
end Go.Proofs.YtdhoboilpngnaaaDoor
