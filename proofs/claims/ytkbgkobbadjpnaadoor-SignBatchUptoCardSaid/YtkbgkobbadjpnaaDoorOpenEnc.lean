/- What a slice of records of one shape is that came in; of arrays of 32 bytes, of numbers. -/
import Derived.Test.YtkbgkobbadjpnaaDoorSeeAll
import Derived.Test.YtkbgkobbadjpnaaDoorHashAll
import Derived.Test.YtkbgkobbadjpnaaDoorSignB
import Derived.Test.YtkbgkobbadjpnaaDoorTabAll
namespace Go.Proofs.YtkbgkobbadjpnaaDoor
open Go.RowKit Go.ChangeShapes Go.WideShapes
set_option linter.unusedVariables false
set_option maxRecDepth 100000
section
variable {W : World}
theorem open_enc {t e k : Nat} {α : Type} (E : Enc α k) (good : α → Prop) (hu : Tryd.prog.underlying t = some (.slice e)) (hk : Tryd.prog.cellsOf e = k) (hpos : 0 < k) (rd : Rdg Tryd.prog W e fun cs b => ∃ q, good q ∧ cs = E.enc q)
    {r : Reach} {b0 : Nat} {v : Value} {H : Type} {enc : TypeId × Value → H} {d : DataW H} {q : List MemPlace} (hv : Value.okWide Tryd.prog W r b0 t v) (h : DataW.Trod enc Tryd.prog W 0 (fun _ => true) true t v d q) :
    ∃ l : List α, (Cs W v l.length (recs E l) ∧ ∀ q ∈ l, good q) ∧ 0 ≤ Rows.uptoBulk d := by
  obtain ⟨a, len, cap, rfl⟩ := okWide_slice (e := e) hu hv
  obtain ⟨v', n, cc, h1, h2, h3, h4, h5⟩ := open_cell (r := r) (b0 := b0) (rdg_slice (e := e) hu hk hpos rd) rfl h
  cases h1
  have key : ∀ l : List (List Value × Nat), (∀ c ∈ l, (∃ q : α, good q ∧ c.1 = E.enc q) ∧ c.1.length = k) → ∃ its : List α, (l.map (·.1)).flatten = recs E its ∧ its.length = l.length ∧ (∀ x ∈ its, good x) := by
    intro l
    induction l with
    | nil => intro _; exact ⟨[], rfl, rfl, by simp⟩
    | cons c r ih =>
      intro h
      obtain ⟨its, e1, e2, e3⟩ := ih fun d hd => h d (by simp [hd])
      obtain ⟨⟨x, f1, f2⟩, _⟩ := h c (by simp)
      refine ⟨x :: its, ?_, by simp [e2], fun y hy => ?_⟩
      · rw [List.map_cons, List.flatten_cons, e1, f2, recs_cons]
      · rcases List.mem_cons.1 hy with rfl | hy
        · exact f1
        · exact e3 y hy
  obtain ⟨its, e1, e2, e3⟩ := key cc h3
  rw [e1] at h4
  refine ⟨its, ⟨?_, e3⟩, Nat.zero_le _⟩
  rw [e2, h2]; exact h4
/-- An array of 32 bytes, as it lies. -/
def b32E : Enc Nat 32 := ⟨fun k => bl (lb k), fun k => by rw [bl_len, lb_len], fun k => bl_one _⟩
theorem rdg_numE : Rdg Tryd.prog W 29 fun cs b => ∃ y, y < T256 ∧ cs = numE.enc y := fun H enc fuel cs x hx => by
  obtain ⟨zs, l0, q0, w0⟩ := cells_ints (t := 29) (e := 27) (n := 4) (k := .u64) (by kernel_rfl) (by kernel_rfl) (by kernel_rfl) (by kernel_rfl) hx
  obtain ⟨a, ha, ea⟩ := num_list l0 w0
  rw [nu_num] at ea
  have ea' : (zs.map (Value.int .u64)) = (numC a).toList := by
    have := congrArg (fun v => match v with | Value.agg c => c.toList | _ => []) ea
    simpa using this
  exact ⟨a, ha, by rw [q0, ea']; rfl⟩
theorem rdg_b32E : Rdg Tryd.prog W 22 fun cs b => ∃ y, y < T256 ∧ cs = b32E.enc y := fun H enc fuel cs x hx => by
  obtain ⟨zs, l0, q0, w0⟩ := cells_ints (t := 22) (e := 5) (n := 32) (k := .u8) (by kernel_rfl) (by kernel_rfl) (by kernel_rfl) (by kernel_rfl) hx
  have hz : ∀ z ∈ zs, 0 ≤ z ∧ z < 256 := fun z hz => by
    exact u8_wf (w0 z hz)
  obtain ⟨y, hy, he⟩ := lb_of (d := zs.map Int.toNat) ⟨by rw [List.length_map, l0], fun d hd => by
    obtain ⟨z, hz', rfl⟩ := List.mem_map.1 hd
    have := hz z hz'
    omega⟩
  refine ⟨y, hy, ?_⟩
  rw [q0]
  show _ = bl (lb y)
  rw [← he, bl, List.map_map]
  refine List.map_congr_left fun z hz' => ?_
  have := hz z hz'
  simp only [Function.comp]
  rw [Int.toNat_of_nonneg this.1]
theorem open_sds {r : Reach} {b0 : Nat} {v : Value} {H : Type} {enc : TypeId × Value → H} {d : DataW H} {q : List MemPlace} (hv : Value.okWide Tryd.prog W r b0 52 v) (h : DataW.Trod enc Tryd.prog W 0 (fun _ => true) true 52 v d q) :
    ∃ l : List Nat, (Cs W v l.length (recs b32E l) ∧ ∀ q ∈ l, q < T256) ∧ 0 ≤ Rows.uptoBulk d := open_enc b32E (· < T256) (e := 22) (by kernel_rfl) (by kernel_rfl) (by decide) rdg_b32E hv h
theorem open_wts {r : Reach} {b0 : Nat} {v : Value} {H : Type} {enc : TypeId × Value → H} {d : DataW H} {q : List MemPlace} (hv : Value.okWide Tryd.prog W r b0 54 v) (h : DataW.Trod enc Tryd.prog W 0 (fun _ => true) true 54 v d q) :
    ∃ l : List Nat, (Cs W v l.length (recs numE l) ∧ ∀ q ∈ l, q < T256) ∧ 0 ≤ Rows.uptoBulk d := open_enc numE (· < T256) (e := 29) (by kernel_rfl) (by kernel_rfl) (by decide) rdg_numE hv h
end
end Go.Proofs.YtkbgkobbadjpnaaDoor
