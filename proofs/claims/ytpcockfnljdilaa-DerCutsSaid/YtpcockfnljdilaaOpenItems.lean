/- Items among the arguments. -/
import Derived.Test.YtpcockfnljdilaaReads
import Derived.Test.YtpcockfnljdilaaItems
namespace Go.Proofs.Ytpcockfnljdilaa
open Go.RowKit Go.ChangeShapes Go.WideShapes
set_option linter.unusedVariables false
set_option maxRecDepth 100000
set_option linter.unusedSimpArgs false
section
variable {W : World}
theorem cells_item : Try.prog.cellsOf 76 = 2 := by kernel_rfl
theorem cells_u8 : Try.prog.cellsOf 5 = 1 := by kernel_rfl
theorem cells_bs : Try.prog.cellsOf 22 = 1 := by kernel_rfl
theorem rdg_bs : Rdg Try.prog W 22 fun cs b => ∃ v n p, cs = [v] ∧ Cb W v n p ∧ n + 1 ≤ b := rdg_bytes (by kernel_rfl) (e := 5) (by kernel_rfl) cells_u8
theorem rdg_item : Rdg Try.prog W 76 fun cs b => ∃ x : It, cs = itC x ∧ x.1 < 256 ∧ Cb W x.2.1 x.2.2.length x.2.2 ∧ x.2.2.length + 2 ≤ b :=
  (rdg_struct2 Try.underlying76 (rdg_int (k := .u8) (by kernel_rfl)) rdg_bs).mono fun cs b ⟨b0, b1, hl, h0, h1, hb⟩ => by
    rw [cells_item] at hl
    obtain ⟨c0, c1, rfl⟩ : ∃ c0 c1, cs = [c0, c1] := by
      match cs, hl with | [c0, c1], _ => exact ⟨c0, c1, rfl⟩
    dsimp only at h0 h1
    rw [cells_u8] at h0
    rw [cells_bs] at h1
    obtain ⟨z, hz, hw⟩ := h0
    obtain ⟨v, n, p, hv, hc, hn⟩ := h1
    simp at hz hv
    subst hz; subst hv
    simp [Lit.wf, IntKind.min, IntKind.max, IntKind.signed, IntKind.bits] at hw
    have hlen := hc.ok.len
    subst hlen
    refine ⟨(z.toNat, c1, p), ?_, by dsimp only; omega, hc, by dsimp only; omega⟩
    simp only [itC, Int.toNat_of_nonneg hw.1]
theorem open_items {r : Reach} {b0 : Nat} {v : Value} {H : Type} {enc : TypeId × Value → H} {d : DataW H} {q : List MemPlace} (hv : Value.okWide Try.prog W r b0 38 v) (h : DataW.Trod enc Try.prog W 0 (fun _ => true) true 38 v d q) :
    ∃ l : List It, Its W v l ∧ l.length + 1 ≤ Rows.uptoBulk d := by
  obtain ⟨a, len, cap, rfl⟩ := okWide_slice (e := 76) (by kernel_rfl) hv
  obtain ⟨v', n, cc, h1, h2, h3, h4, h5⟩ := open_cell (r := r) (b0 := b0) (rdg_slice (e := 76) (by kernel_rfl) cells_item (by decide) rdg_item) rfl h
  cases h1
  have key : ∀ l : List (List Value × Nat), (∀ c ∈ l, (∃ x : It, c.1 = itC x ∧ x.1 < 256 ∧ Cb W x.2.1 x.2.2.length x.2.2 ∧ x.2.2.length + 2 ≤ c.2) ∧ c.1.length = 2) → ∃ its : List It, (l.map (·.1)).flatten = itsC its ∧ its.length = l.length ∧ (∀ x ∈ its, x.1 < 256 ∧ Cb W x.2.1 x.2.2.length x.2.2) ∧ l.length ≤ (l.map (·.2)).sum := by
    intro l
    induction l with
    | nil => intro _; exact ⟨[], rfl, rfl, by simp, by simp⟩
    | cons c r ih =>
      intro h
      obtain ⟨its, e1, e2, e3, e4⟩ := ih fun d hd => h d (by simp [hd])
      obtain ⟨⟨x, f1, f2, f3, f4⟩, _⟩ := h c (by simp)
      refine ⟨x :: its, ?_, by simp [e2], fun y hy => ?_, by simp only [List.map_cons, List.sum_cons, List.length_cons]; omega⟩
      · rw [List.map_cons, List.flatten_cons, e1, f1]; simp [itsC]
      · rcases List.mem_cons.1 hy with rfl | hy
        · exact ⟨f2, f3⟩
        · exact e3 y hy
  obtain ⟨its, e1, e2, e3, e4⟩ := key cc h3
  rw [e1] at h4
  refine ⟨its, ⟨?_, fun x hx => (e3 x hx).1, fun x hx => (e3 x hx).2⟩, by omega⟩
  rw [e2, h2]; exact h4
/-- An item by itself. -/
structure ItA (W : World) (v : Value) (x : It) : Prop where
  val : v = .agg #[.int .u8 ((x.1 : Nat) : Int), x.2.1]
  tag : x.1 < 256
  body : Cb W x.2.1 x.2.2.length x.2.2
theorem open_item {r : Reach} {b0 : Nat} {v : Value} {H : Type} {enc : TypeId × Value → H} {d : DataW H} {q : List MemPlace} (hv : Value.okWide Try.prog W r b0 76 v) (h : DataW.Trod enc Try.prog W 0 (fun _ => true) true 76 v d q) :
    ∃ x : It, ItA W v x ∧ x.2.2.length + 2 ≤ Rows.uptoBulk d := by
  obtain ⟨cs, rfl, _⟩ := okWide_struct Try.underlying76 hv
  obtain ⟨fuel, hf⟩ := h
  obtain ⟨x, h1, h2, h3, h4⟩ := rdg_item H enc fuel _ _ hf
  refine ⟨x, ⟨?_, h2, h3⟩, h4⟩
  have : cs.toList = itC x := h1
  rw [← Array.toArray_toList (xs := cs), this]
  rfl
end
end Go.Proofs.Ytpcockfnljdilaa
