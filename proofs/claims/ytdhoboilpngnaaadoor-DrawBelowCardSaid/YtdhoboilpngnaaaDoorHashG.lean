/- The package hash: contracts for whatever state and bytes, in all worlds that a walk meets. -/
import Derived.Test.YtdhoboilpngnaaaDoorShaF
namespace Go.Proofs.YtdhoboilpngnaaaDoor
open Go.RowKit
set_option linter.unusedVariables false
set_option linter.unusedSimpArgs false
/-- Bytes, all of them. -/
class ByL (p : List Nat) : Prop where
  out : ∀ x ∈ p, x < 256
instance : ByL [] := ⟨by simp⟩
instance {p q : List Nat} [h : ByL p] [h' : ByL q] : ByL (p ++ q) := ⟨fun x hx => (List.mem_append.1 hx).elim (h.out x) (h'.out x)⟩
instance {p : List Nat} : ByL (dig p) := ⟨by rw [dig, HS.sum]; exact sumB_byte _⟩
instance {n : Nat} : ByL (padL n) := ⟨padL_byte n⟩
instance {st : HS} : ByL st.sum := ⟨sumB_byte _⟩
instance {st : HS} {p : List Nat} [h : HSo st] [h' : ByL p] : HSo (st.write p) := ⟨HS.write_ok h'.out h.out⟩
theorem sum_len {st : HS} (h : st.ok) : st.sum.length = 32 := by
  have : ∀ (q : List Nat) (s : HS), s.h.length = 8 → (s.write q).h.length = 8 := fun q => by
    induction q with
    | nil => intro s h; exact h
    | cons b r ih =>
      intro s h
      refine ih (s.put b) ?_
      simp only [HS.put]
      split
      · rw [pressI, addsI_len, h]
      · exact h
  rw [HS.sum, sumB_len, this _ _ h.1]
instance {st : HS} [h : HSo st] : NBy st.sum 32 := ⟨sum_len h.out⟩
theorem write_g (w : World) (hT : Tab w) (w' : World) (hb : Below w.heap.size w w') {st : HS} [h : HSo st] {v : Value} {n : Nat} {p : List Nat} (hq : Cb w' v n p) :
    Calls Tryd.prog 49 [hv st, v].toArray w' (Ret (hv (st.write p)) w') := write_c w' (hT.below hb) h.out hq
theorem sum_g (w : World) (hT : Tab w) (w' : World) (hb : Below w.heap.size w w') {st : HS} [h : HSo st] :
    Calls Tryd.prog 50 [hv st].toArray w' (Ret (.agg (bys st.sum)) w') := sum_c w' (hT.below hb) h.out
theorem dig_g (w : World) (hT : Tab w) (w' : World) (hb : Below w.heap.size w w') {v : Value} {n : Nat} {p : List Nat} (hq : Cb w' v n p) :
    Calls Tryd.prog 27 [v].toArray w' (Ret (.agg (bys (dig p))) w') := dig_c w' (hT.below hb) hq
end Go.Proofs.YtdhoboilpngnaaaDoor
