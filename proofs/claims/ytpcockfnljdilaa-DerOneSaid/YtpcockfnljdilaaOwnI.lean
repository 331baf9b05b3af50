/- Items of the walk's own: a slice that nobody else holds, with bodies that stand in blocks of the walk's own. -/
import Derived.Test.YtpcockfnljdilaaItems
import Derived.Test.YtpcockfnljdilaaLwH
namespace Go.Proofs.Ytpcockfnljdilaa
open Go.RowKit
set_option linter.unusedVariables false
set_option maxRecDepth 100000
/-- Items, the same in all worlds of which Φ is told. -/
class IsF (Φ : outParam (World → Prop)) (v : Value) (l : outParam (List It)) : Prop where
  cs : CsF Φ v l.length (itsC l)
  out : ∀ w, Φ w → Its w v l
theorem Its.old {W : World} {v : Value} {l : List It} (h : Its W v l) : IsF (Old W []) v l := ⟨h.cs.old, fun w ho =>
  ⟨h.cs.old.out w ho, h.tag, fun x hx => ⟨(h.body x hx).cs.old.out w ho, (h.body x hx).ok⟩⟩⟩
theorem IsF.csf {Φ : World → Prop} {v : Value} {l : List It} (h : IsF Φ v l) : CsF Φ v l.length (itsC l) := h.cs
class VwI (X : Cx) (l : Blks) (v : Value) (its : outParam (List It)) : Prop where
  out : ∀ w, Mem X l w → Its w v its
instance {X : Cx} {l : Blks} {Φ : World → Prop} {v : Value} {its : List It} [h : IsF Φ v its] [h' : Hold X l Φ] : VwI X l v its := ⟨fun w hm => h.out w (h'.out w hm)⟩
/-- The bodies of items, in blocks of the walk's own. -/
def BodI (its : List It) (ob : Blks) : Prop := ∀ x ∈ its, x.1 < 256 ∧ BL x.2.2.length x.2.2 ∧ ∀ w, Hd ob w → Cs w x.2.1 x.2.2.length (bl x.2.2)
theorem BodI.nil : BodI [] [] := fun x hx => by cases hx
theorem Hd.left {a b : Blks} {w : World} (h : Hd (a ++ b) w) : Hd a w := fun p hp => h p (List.mem_append_left _ hp)
theorem Hd.right {a b : Blks} {w : World} (h : Hd (a ++ b) w) : Hd b w := fun p hp => h p (List.mem_append_right _ hp)
theorem BodI.app {l m : List It} {a b : Blks} (h : BodI l a) (h' : BodI m b) : BodI (l ++ m) (a ++ b) := fun x hx => by
  rcases List.mem_append.1 hx with hx | hx
  · obtain ⟨h1, h2, h3⟩ := h x hx; exact ⟨h1, h2, fun w hw => h3 w hw.left⟩
  · obtain ⟨h1, h2, h3⟩ := h' x hx; exact ⟨h1, h2, fun w hw => h3 w hw.right⟩
theorem BodI.one {t : Nat} {v : Value} {e : Nat} {q : List Nat} {oa : Blks} (h : OwnB e v q.length q oa) (ht : t < 256) : BodI [(t, v, q)] oa := fun x hx => by
  simp only [List.mem_singleton] at hx
  subst hx
  exact ⟨ht, h.ok, fun w hw => h.own.cs.out w hw⟩
/-- A slice of such items. -/
structure OwnI (e : Nat) (v : Value) (its : List It) (oa : Blks) : Prop where
  out : ∃ oo ob, oa = oo ++ ob ∧ OwnL e 2 v its.length (itsC its) oo ∧ BodI its ob
theorem OwnI.isf {e : Nat} {v : Value} {its : List It} {oa : Blks} (h : OwnI e v its oa) : IsF (Hd oa) v its := by
  obtain ⟨oo, ob, rfl, h1, h2⟩ := h.out
  refine ⟨⟨h1.ln, fun w hw => h1.cs.out w hw.left⟩, fun w hw => ⟨h1.cs.out w hw.left, fun x hx => (h2 x hx).1, fun x hx => ⟨(h2 x hx).2.2 w hw.right, (h2 x hx).2.1⟩⟩⟩
end Go.Proofs.Ytpcockfnljdilaa
