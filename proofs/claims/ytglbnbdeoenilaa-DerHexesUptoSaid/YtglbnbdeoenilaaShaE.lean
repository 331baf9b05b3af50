/- The package hash, walked: Sum. -/
import Derived.Test.YtglbnbdeoenilaaShaD
import Derived.Test.YtglbnbdeoenilaaShaLaw
import Derived.Test.YtglbnbdeoenilaaPad
namespace Go.Proofs.Ytglbnbdeoenilaa
open Go.RowKit
set_option linter.unusedVariables false
set_option maxRecDepth 100000
set_option linter.unusedSimpArgs false
theorem set4 {α : Type} (A R : List α) (a b c d z0 z1 z2 z3 : α) (k : Nat) (hk : A.length = k) :
    ((((A ++ z0 :: z1 :: z2 :: z3 :: R).set k a).set (k + 1) b).set (k + 2) c).set (k + 3) d = (A ++ [a, b, c, d]) ++ R := by
  subst hk
  simp [List.set_append_right]
/-- So far: the first i words' bytes, noughts behind. -/
def outB (h : List Int) (i : Nat) : List Nat := sumB (h.take i) ++ List.replicate (32 - 4 * i) 0
theorem outB_len (h : List Int) (hh : h.length = 8) {i : Nat} (hi : i ≤ 8) : (outB h i).length = 32 := by
  rw [outB, List.length_append, sumB_len, List.length_take, List.length_replicate]; omega
theorem outB_step (h : List Int) (hh : h.length = 8) {i : Nat} (hi : i < 8) {a b c d : Nat} (he : by4 (h.getD i 0) = [a, b, c, d]) :
    ((((outB h i).set (4 * i) a).set (4 * i + 1) b).set (4 * i + 2) c).set (4 * i + 3) d = outB h (i + 1) := by
  have e1 : List.replicate (32 - 4 * i) 0 = 0 :: 0 :: 0 :: 0 :: List.replicate (32 - 4 * (i + 1)) 0 := by
    rw [show 32 - 4 * i = 32 - 4 * (i + 1) + 1 + 1 + 1 + 1 by omega]; rfl
  have e2 : h.take (i + 1) = h.take i ++ [h.getD i 0] := by
    rw [List.take_add_one, List.getElem?_eq_getElem (by omega)]; simp [List.getD, (by omega : i < h.length)]
  rw [outB, e1, set4 _ _ a b c d _ _ _ _ (4 * i) (by rw [sumB_len, List.length_take]; omega), outB, e2]
  congr 1
  rw [sumB_eq, sumB_eq, List.map_append, List.flatten_append, List.map_cons, List.map_nil, List.flatten_cons, List.flatten_nil, List.append_nil, he]
/-- So many bytes. -/
class NBy (l : List Nat) (n : outParam Nat) : Prop where
  out : l.length = n
instance {l : List Nat} {n i k : Nat} [h : NBy l n] : NBy (l.set i k) n := ⟨by rw [List.length_set, h.out]⟩
instance {n x : Nat} : NBy (List.replicate n x) n := ⟨by simp⟩
instance {l : List Nat} {n : Nat} [h : NBy l n] : Cells (bys l) n := ⟨(seg_bys h.out).size, (seg_bys h.out).one⟩
instance {l : List Nat} {n : Nat} [h : NBy l n] : SegL (bys l) n := seg_bys h.out
theorem padL_byte (n : Nat) : ∀ x ∈ padL n, x < 256 := fun x hx => by
  rcases List.mem_cons.1 hx with rfl | hx
  · decide
  · rcases List.mem_append.1 hx with h | h
    · rw [(List.mem_replicate.1 h).2]; decide
    · obtain ⟨i, _, rfl⟩ := List.mem_map.1 h
      exact Nat.mod_lt _ (by decide)
end Go.Proofs.Ytglbnbdeoenilaa
