/- A point that came in as an argument. -/
import Derived.Test.YtjiiccainfhgkaaOpenAll
import Derived.Test.YtjiiccainfhgkaaPt
namespace Go.Proofs.Ytjiiccainfhgkaa
open Go.RowKit Go.ChangeShapes Go.WideShapes Go.ChangeAt
set_option maxRecDepth 100000
set_option linter.unusedVariables false
set_option linter.constructorNameAsVariable false
section
variable {H : Type} {enc : TypeId × Value → H} {w : World} {base : Nat} {spare : Nat → Bool} {held : Bool}
theorem row_of_parts {cs : Array Value} {a b : Nat} (hs : cs.size = 8) (h0 : (cs.toList.drop 0).take 4 = (numC a).toList) (h1 : (cs.toList.drop 4).take 4 = (numC b).toList) : cs = rowC [a, b] := by
  apply Array.ext'
  have e : cs.toList = cs.toList.take 4 ++ (cs.toList.drop 4).take 4 := by
    rw [List.take_of_length_le (l := cs.toList.drop 4) (by rw [List.length_drop, Array.length_toList, hs]; omega), List.take_append_drop]
  rw [e, h1]
  rw [List.drop_zero] at h0
  rw [h0]
  have := rowC_two a b
  rw [this]
theorem open_pt {r : Reach} {b0 : Nat} {v : Value} {d : DataW H} {p : List MemPlace} (hv : Value.okWide Try.prog w r b0 37 v) (h : DataW.Trod enc Try.prog w base spare held 37 v d p) : ∃ q : Pt, q.lt ∧ v = pv q := by
  obtain ⟨fs, ht⟩ : ∃ fs, Try.prog.underlying 37 = some (.struct fs) := ⟨_, rfl⟩
  obtain ⟨cs, rfl, hs⟩ := Go.WideShapes.okWide_struct ht hv
  obtain ⟨fuel, hf⟩ := h
  obtain ⟨xs, m, _, _, _, hl, hx⟩ := DataW.trod_struct ht hf
  have hs' : cs.size = 8 := hs.trans (by kernel_rfl)
  obtain ⟨f0, f1, hF, n0, n1, t0, t1, o0, o1⟩ := pt_fields
  have e : (Try.prog.fieldsOf 37) = fs := by unfold Program.fieldsOf; rw [ht]
  rw [e] at hF
  have c4 : Try.prog.cellsOf 24 = 4 := by kernel_rfl
  have cu : Try.prog.cellsOf 22 = 1 := by kernel_rfl
  have u4 : Try.prog.underlying 24 = some (.array 4 22) := by kernel_rfl
  have uu : Try.prog.underlying 22 = some (.int .u64) := by kernel_rfl
  have g0 : fs[0]? = some f0 := by rw [← Array.getElem?_toList, hF]; rfl
  have g1 : fs[1]? = some f1 := by rw [← Array.getElem?_toList, hF]; rfl
  have hlen : xs.length = 2 := by rw [hl, ← Array.length_toList, hF]; rfl
  have r0 := hx 0 f0 g0
  have r1 := hx 1 f1 g1
  rw [List.getElem?_eq_getElem (by omega), t0, o0, c4] at r0
  rw [List.getElem?_eq_getElem (by omega), t1, o1, c4] at r1
  obtain ⟨zs, l0, q0, w0⟩ := cells_ints u4 uu cu c4 (cs := (cs.toList.drop 0).take 4) (by simpa [Value.cells] using r0)
  obtain ⟨us, l1, q1, w1⟩ := cells_ints u4 uu cu c4 (cs := (cs.toList.drop 4).take 4) (by simpa [Value.cells] using r1)
  obtain ⟨a, ha, ea⟩ := num_list l0 w0
  obtain ⟨b, hb, eb⟩ := num_list l1 w1
  rw [nu_num] at ea eb
  have ea' : (zs.map (Value.int .u64)) = (numC a).toList := by
    have := congrArg (fun v => match v with | Value.agg c => c.toList | _ => []) ea
    simpa using this
  have eb' : (us.map (Value.int .u64)) = (numC b).toList := by
    have := congrArg (fun v => match v with | Value.agg c => c.toList | _ => []) eb
    simpa using this
  rw [ea'] at q0
  rw [eb'] at q1
  exact ⟨⟨a, b⟩, ⟨ha, hb⟩, by rw [row_of_parts hs' q0 q1]⟩
end
end Go.Proofs.Ytjiiccainfhgkaa
