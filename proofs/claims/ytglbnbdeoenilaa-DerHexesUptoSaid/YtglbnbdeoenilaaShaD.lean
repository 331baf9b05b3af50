/- The package hash, walked: Write. -/
import Derived.Test.YtglbnbdeoenilaaShaC
namespace Go.Proofs.Ytglbnbdeoenilaa
open Go.RowKit
set_option linter.unusedVariables false
set_option maxRecDepth 100000
set_option linter.unusedSimpArgs false
def zeroH : HS := ⟨List.replicate 8 0, 0, List.replicate 64 0⟩
instance : HSo zeroH := ⟨⟨rfl, by decide, rfl, by decide⟩⟩
theorem take_succ' (p : List Nat) (i : Nat) (h : i < p.length) : p.take (i + 1) = p.take i ++ [p.getD i 0] := by
  rw [List.take_add_one, List.getElem?_eq_getElem h]; simp [List.getD, h]
instance {st : HS} [h : HSo st] : Cells (rwA (sgH st)) 73 := ⟨rw_size inferInstance, rw_one inferInstance⟩
theorem hs_eq (st : HS) (b : Nat) (h : (st.n + 1) % 18446744073709551616 % 64 ≠ 0) : st.put b = ⟨st.h, (st.n + 1) % 18446744073709551616, st.left.set (st.n % 64) b⟩ := by
  simp only [HS.put, if_neg h]
theorem hs_eq0 (st : HS) (b : Nat) (h : (st.n + 1) % 18446744073709551616 % 64 = 0) : st.put b = ⟨pressI st.h (st.left.set (st.n % 64) b), (st.n + 1) % 18446744073709551616, st.left.set (st.n % 64) b⟩ := by
  simp only [HS.put, if_pos h]
theorem hs_lit (h : List Int) (n : Nat) (l : List Nat) : sgH ⟨h, n, l⟩ = [(8, iw h), (1, #[.int .u64 (n : Int)]), (64, bys l)] := rfl
end Go.Proofs.Ytglbnbdeoenilaa
