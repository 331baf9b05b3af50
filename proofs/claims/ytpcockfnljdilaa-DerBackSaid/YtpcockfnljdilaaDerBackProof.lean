/- DerBack: whatever the input, it answers true. The frame round the walk of XDerBackWalk. -/
import Derived.Test.YtpcockfnljdilaaRows
import Derived.Test.YtpcockfnljdilaaDerBackWalk
import Derived.Test.YtpcockfnljdilaaReads
import Derived.Test.YtpcockfnljdilaaOpen
import Derived.Test.YtpcockfnljdilaaClosed
import Derived.Test.YtpcockfnljdilaaOpenItems
import Derived.WalkKit
import Derived.ProofKit
import Derived.OpenShut
import Derived.ShutString
import Derived.ChangeOld
import Derived.Below
import Derived.JoinedCond
namespace Go.Proofs.Ytpcockfnljdilaa.lawDerBack
open Go.ChangeShapes Go.WideShapes Go.ChangeAt Go.RowKit
set_option linter.unusedVariables false
theorem own : ownKnob Try.prog.godebug = none := by kernel_rfl
theorem laidOut : laidOutB Try.prog = true := by kernel_rfl
set_option maxRecDepth 100000 in
theorem lifted (os : Os) (started : os.Started) (H : Type) (enc : TypeId × Value → H) :
    ReturnsInHanded {} Try.checked os 5 .any (Rows.derBackSpec.pre6 enc Try.prog Try.f5 Rows.derBackRow.domain false) (Rows.derBackSpec.post enc Try.prog Try.f5 false true false false) := by
  refine returnsInHanded_of_change (C := Try.checked) own started (by kernel_rfl) Try.func5
    (ChangeSpec.witness6 (enc := enc) (C := Try.checked) false ⟨#[], #[.slice none 0 0], []⟩ 8 (by kernel_rfl) (by kernel_rfl) (by kernel_rfl) (by kernel_rfl)) ?_
  intro W base args ds gs before hval0 hW hcnd _
  have hval : ∀ (j : Nat) t v, Try.f5.params[j]? = some t → args[j]? = some v → Value.okWide Try.prog W .any base t v := hval0
  have hW' := hW
  obtain ⟨p, q, hA0, hV, rfl, hfz, hnd⟩ := hW
  have hA : DataW.TrodAll enc Try.prog W 0 (fun _ => true) true Try.f5.params.toList args.toList ds p := hA0
  rw [Try.params5] at hA hval
  obtain ⟨v0, vs0, d0, ds0, p0, q0, hargs, rfl, rfl, h0, r0⟩ := trodAll_cons hA
  obtain ⟨rfl, rfl, rfl⟩ := trodAll_nil r0
  obtain rfl : args = #[v0] := by cases args; simp_all
  obtain ⟨rfl, rfl⟩ := trodVars_none hV
  have k0 := h0
  have lt0 : ∀ x ∈ p0, x.block < W.heap.size := by obtain ⟨m, hm⟩ := k0; exact DataW.trod_lt m _ _ _ hm
  obtain ⟨a0, s0, b0⟩ := open_items (hval 0 38 v0 rfl rfl) h0
  try clear hA0 hval0
  refine (DerBackWalk.walk W s0).mono fun e W' ⟨he, bel⟩ => ?_
  subst he
  exact ⟨_, rfl, _, _, _, [], _, [], hW', trodAll_mk1 (shut_bool (t := 4) (by kernel_rfl) _), (trodAll_cons_mk (Below.trod laidOut (by kernel_rfl) (of_decide_eq_true (by kernel_rfl)) k0 bel lt0) trodAll_mk0), rfl, bel.frame _, fun h => by cases h⟩
set_option maxRecDepth 100000 in
theorem closed : joinedFacts Try.pinned.checked.prog 5 Try.f5 Rows.derBackSpec Rows.derBackRow = true := by
  have e1 : Try.pinned.checked.prog.mayEnter = true := mayEnters
  have e2 : (Rows.derBackRow.lifted == Try.pinned.checked.prog.liftsFinal) = true := by
    show (Rows.derBackRow.lifted == Try.prog.liftsFinal) = true
    rw [liftsNone]; rfl
  have e3 : (Try.pinned.checked.prog.make == some Rows.derBackRow.make) = true := by
    show (Try.prog.make == some Rows.derBackRow.make) = true
    rw [makeCut]; rfl
  unfold joinedFacts
  simp only [Bool.and_eq_true]
  repeat' apply And.intro
  all_goals first | with_reducible exact e1 | with_reducible exact e2 | with_reducible exact e3 | (as_aux_lemma => kernel_rfl)
theorem named : Try.pinned.checked.prog.funcNamed Rows.derBackRow.func = some 5 := by kernel_rfl
theorem over : Rows.derBackRow.holds Try.pinned (OpenSpec.ofChange Rows.derBackSpec) :=
  OpenClaim.holds_of_wide 5 Try.f5 rfl rfl rfl rfl rfl rfl rfl ⟨rfl, rfl, rfl, rfl, rfl⟩ rfl rfl rfl rfl rfl named Try.func5 closed
    (of_decide_eq_true (by kernel_rfl)) (by unfold Func.isWrapper; first | (rw [if_pos (by decide +kernel)]; kernel_rfl) | (rw [if_neg (by decide +kernel)]; exact ⟨rfl, rfl⟩))
    (fun os started H enc _ => lifted os started H enc)
theorem proved : Rows.DerBackSaid := over
#print axioms proved
end Go.Proofs.Ytpcockfnljdilaa.lawDerBack
