/- Items that came in: a tag, a body. -/
import Derived.Test.YtpcockfnljdilaaOwnB
import Derived.Test.YtpcockfnljdilaaDerPlain
namespace Go.Proofs.Ytpcockfnljdilaa
open Go.RowKit
set_option linter.unusedVariables false
/-- An item: its tag, its body's slice, the bytes. -/
abbrev It := Nat × Value × List Nat
def It.p (x : It) : Nat × List Nat := (x.1, x.2.2)
def itC (x : It) : List Value := [.int .u8 ((x.1 : Nat) : Int), x.2.1]
def itsC (l : List It) : List Value := (l.map itC).flatten
theorem itsC_len : ∀ l : List It, (itsC l).length = l.length * 2
  | [] => rfl
  | x :: r => by
    have := itsC_len r
    unfold itsC at this ⊢
    simp only [List.map_cons, List.flatten_cons, List.length_append, this, List.length_cons, itC, List.length_nil]; omega
theorem itsC_app (a b : List It) : itsC (a ++ b) = itsC a ++ itsC b := by simp [itsC]
theorem itsC_get : ∀ {l : List It} {i : Nat} {x : It}, l[i]? = some x → ((itsC l).drop (i * 2)).take 2 = [.int .u8 ((x.1 : Nat) : Int), x.2.1]
  | [], _, _, h => by simp at h
  | y :: r, 0, x, h => by
    simp only [List.getElem?_cons_zero, Option.some.injEq] at h
    subst h
    simp [itsC, itC]
  | y :: r, i + 1, x, h => by
    rw [List.getElem?_cons_succ] at h
    have ih := itsC_get h
    rw [show (i + 1) * 2 = 2 + i * 2 by omega, ← List.drop_drop]
    have : (itsC (y :: r)).drop 2 = itsC r := by simp [itsC, itC]
    rw [this]
    exact ih
/-- A slice of items in a world. -/
structure Its (w : World) (v : Value) (l : List It) : Prop where
  cs : Cs w v l.length (itsC l)
  tag : ∀ x ∈ l, x.1 < 256
  body : ∀ x ∈ l, Cb w x.2.1 x.2.2.length x.2.2
theorem Its.below {w w' : World} {v : Value} {l : List It} (h : Its w v l) (hb : Below w.heap.size w w') : Its w' v l := ⟨h.cs.below hb, h.tag, fun x hx => (h.body x hx).below hb⟩
end Go.Proofs.Ytpcockfnljdilaa
