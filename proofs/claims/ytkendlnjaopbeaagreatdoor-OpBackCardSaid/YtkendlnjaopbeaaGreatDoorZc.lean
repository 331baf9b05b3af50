/- New variables by their type's class. -/
import Derived.Test.YtkendlnjaopbeaaGreatDoorLwDraw
namespace Go.Proofs.YtkendlnjaopbeaaGreatDoor
open Go.RowKit
set_option linter.unusedVariables false
set_option linter.unusedSimpArgs false
/-- A new variable's cells. -/
class ZC (P : Program) (t : Nat) (c : outParam (Array Value)) : Prop where
  out : ((P.info? t).bind (·.zero)).map (·.cells) = some c
theorem ZC.zr {P : Program} {t : Nat} {c : Array Value} (h : ZC P t c) : ∃ z, ZR P t z ∧ z.cells = c := by
  have h := h.out
  cases hz : (P.info? t).bind (·.zero) with
  | none => simp [hz] at h
  | some z => exact ⟨z, ⟨hz⟩, by simpa [hz] using h⟩
theorem mk_allocC {X : Cx} {s : Slots} {o : Oper} {t : Nat} {c : Array Value} (ho : o.op = .alloc t) [hz : ZC X.P t c] : Mk X s o c t ptr := by
  obtain ⟨z, h1, h2⟩ := hz.zr
  exact mk_alloc ho h2
theorem wd_allocC {X : Cx} {G : Rg} {lc : Blks} {s : Slots} {o : Oper} {Q : Post} {ops : Array Oper} {r : List Oper} {clean : Bool} {t : Nat} {c : Array Value} {s' : Nat → Slots} (hm : Mem X G.l0 G.w0) (hg : gd s ops o = some true) (hd : dOk X.N o.dst = true) (ho : o.op = .alloc t) [hz : ZC X.P t c]
    (h : ∀ n, X.W.heap.size ≤ n → G.w0.heap.size ≤ n → Wd X G ops Q r (s' n) ((n, (c, t)) :: lc) clean) (hs' : ∀ n, sputO s o.dst (ptr n) = s' n := by intro _; (try dsimp only [sputO, sput, Nat.reduceBEq, cond_true, cond_false, beq_self_eq_true]); first | done | exact rfl) (hb : Nat.blt t BIG = true := by first | rfl | assumption) : Wd X G ops Q (o :: r) s lc clean := by
  obtain ⟨z, h1, h2⟩ := hz.zr
  exact wd_alloc hm hg hd ho h h2 hs'
theorem rd_cast {X : Cx} {s : Slots} {l : Blks} {o : Oper} {v v' : Value} (h : RdV X s l o v) (e : v = v') : RdV X s l o v' := e ▸ h
end Go.Proofs.YtkendlnjaopbeaaGreatDoor
