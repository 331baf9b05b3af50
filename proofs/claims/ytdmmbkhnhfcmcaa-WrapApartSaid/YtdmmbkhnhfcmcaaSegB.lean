/- Structs that are built of their fields, as rows of segments. -/
import Derived.Test.YtdmmbkhnhfcmcaaSeg
namespace Go.Proofs.Ytdmmbkhnhfcmcaa
open Go.RowKit
set_option linter.unusedVariables false
set_option linter.unusedSimpArgs false
def putsH (pl : List (Nat × Nat)) : Sg → List (Nat × Value) → Option Sg
  | g, [] => some g
  | g, (i, v) :: r => match pl[i]? with
    | none => none
    | some q => match putG g q.1 q.2 v.cells with
      | some g' => putsH pl g' r
      | none => none
theorem putsH_spec {pl : List (Nat × Nat)} : ∀ {vs : List (Nat × Value)} {g g' : Sg}, SgOk g → (∀ p ∈ vs, p.2.cells.all (·.oneCell') = true) → (∀ p ∈ vs, ∀ q, pl[p.1]? = some q → p.2.cells.size = q.2) → putsH pl g vs = some g' → fillC (fun i => pl[i]?) (rwL g) vs = some (rwL g') ∧ SgOk g'
  | [], g, g', hok, _, _, h => by cases h; exact ⟨rfl, hok⟩
  | (i, v) :: r, g, g', hok, h1, h2, h => by
    unfold putsH at h
    unfold fillC
    cases hp : pl[i]? with
    | none => simp [hp] at h
    | some q =>
      simp only [hp] at h ⊢
      have c : v.cells.size = q.2 := h2 (i, v) (by simp) q hp
      cases hg : putG g q.1 q.2 v.cells with
      | none => rw [hg] at h; cases h
      | some g1 =>
        rw [hg] at h
        simp only at h
        obtain ⟨e1, e2, e3, e4⟩ := putG_spec hok c (h1 (i, v) (by simp)) hg
        have hb : Nat.ble (q.1 + q.2) (rwL g).length = true := Nat.ble_eq_true_of_le (by rw [rwL_len hok]; exact e4)
        have c' : (v.cells.size == q.2) = true := by simp [c]
        rw [c', hb, Bool.and_self, cond_true, e1]
        exact putsH_spec e2 (fun p hp => h1 p (by simp [hp])) (fun p hp => h2 p (by simp [hp])) h
section
variable {X : Cx} {s : Slots} {l : Blks} {o : Oper} {v : Value}
theorem all_one {v : Value} (h : v.oneCell' = true) : v.cells.all (·.oneCell') = true := by rw [one_cells h]; simpa using h
theorem rd_buildH {t : Nat} {ps : Array (Nat × Operand)} {vs : List (Nat × Value)} {pl : List (Nat × Nat)} {g0 g g' : Sg} (ho : o.op = .build t ps) (hx : valsP s ps.toList = some vs) [ht : SP X.P t pl] [hz : ZG X.P t g0]
    (hc : putsH pl g0 vs = some g := by rfl) (hg : g = g' := by (try dsimp only [Value.cells]); first | done | exact rfl) (h1 : ∀ p ∈ vs, p.2.cells.all (·.oneCell') = true := by (simp only [List.forall_mem_cons, List.not_mem_nil, false_imp_iff, implies_true, and_true]; (repeat' apply And.intro) <;> first | (dsimp only [Value.cells]; exact Cells.one) | exact all_one rfl | rfl))
    (h2 : ∀ p ∈ vs, ∀ q, pl[p.1]? = some q → p.2.cells.size = q.2 := by (simp only [List.forall_mem_cons, List.not_mem_nil, false_imp_iff, implies_true, and_true]; (repeat' apply And.intro) <;> (intro q hq; obtain rfl := Option.some.inj hq; first | (dsimp only [Value.cells]; exact Cells.size) | rfl))) : RdV X s l o (.agg (rwA g')) := by
  subst hg
  haveI : ZR X.P t (.agg (rwA g0)) := ⟨hz.out⟩
  exact rd_buildS ho hx (by rw [rwA]; exact (putsH_spec hz.ok h1 h2 hc).1)
/-- A new block of a struct that was built. -/
theorem mk_boxG {t : Nat} {x : Operand} {g : Sg} (ho : o.op = .box t x) (hx : val s x = some (.agg (rwA g))) : Mk X s o (rwA g) t ptr := mk_box ho hx
end
end Go.Proofs.Ytdmmbkhnhfcmcaa
