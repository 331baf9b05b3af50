/-
  No cell of these rows narrows 'for every input' (looked for: loops, veiled, ifaces, maps, wideKeys, modest, calm, conditions, laid).
  DERIVED. THE GIVEN ROWS OF THIS SEAT. 5 by the template 'for every input the law returns true; each argument reads behind the call as it read before'; 0 by the template 'total and deterministic' (their statements: YtjianfhodjapgaaTotals.lean).
  GIVEN WITH THE SEED: the statements are not yours to turn. If you find one false, say at which input.
  Laid BY PROGRAM, IN A SANDBOX (cutbox-rows.mjs): the forced cells as the released guide's own fill.sh prints them over the translation eaec4826605cac74… (all of the seat's roots in one cut). By AI agents, Wed Nov 11 2026. No macro, syntax, notation, axiom, sorry.
-/
import Derived.Test.YtjianfhodjapgaaChecked
import GoSem.Claim
import GoSem.ClaimJoined
import GoSem.ClaimMapViews
import Derived.JoinedTies
import Derived.KernelRfl
namespace Go.Proofs.Ytjianfhodjapgaa
/- THE CELL 'sum', in the pinned program and in every row, IS THE sha256 OF THE DUMP (.gsa) THAT YtjianfhodjapgaaProg.lean LOADS. Nothing in Lean hashes anything: it is a label: what it is worth is what the hold of that sum in a sandbox is worth. -/
noncomputable def Try.pinned : Pinned := { name := "ytjianfhodjapgaa", sum := "eaec4826605cac74cd0fcae7517a88db28325a93e0a1e87b1c81eb6e572228b3", checked := Try.checked }
namespace Rows
def none {H : Type} : Left H := { results := [], args := [] }

/-- 'sealringkeep.StoreOwner': WHATEVER THE INPUT: true; the input reads as it did. -/
def storeOwnerSpec : ChangeSpec := { name := "storeOwner", fn := fun _ => fun
  | [d1, d2, d3] => { results := [.lit (.bool true)], args := [d1, d2, d3] }
  | _ => none }
def storeOwnerRow : OpenClaim := { program := "ytjianfhodjapgaa", sum := "eaec4826605cac74cd0fcae7517a88db28325a93e0a1e87b1c81eb6e572228b3", func := "sealring/sealringkeep.StoreOwner", spec := "storeOwner", unfollowed := true, recurses := true, apart := false }
def StoreOwnerSaid : Prop := storeOwnerRow.holds Try.pinned (OpenSpec.ofChange storeOwnerSpec)

/-- ITS FALSE NEIGHBOUR: 'it returns false'. Refute it at one input. -/
def storeOwnerWrong : ChangeSpec := { name := "storeOwner", fn := fun _ => fun
  | [d1, d2, d3] => { results := [.lit (.bool false)], args := [d1, d2, d3] }
  | _ => none }
def StoreOwnerWrongFalsely : Prop := storeOwnerRow.holds Try.pinned (OpenSpec.ofChange storeOwnerWrong)

/-- 'sealringkeep.StoreOnce': WHATEVER THE INPUT: true; the input reads as it did. -/
def storeOnceSpec : ChangeSpec := { name := "storeOnce", fn := fun _ => fun
  | [d1, d2, d3] => { results := [.lit (.bool true)], args := [d1, d2, d3] }
  | _ => none }
def storeOnceRow : OpenClaim := { program := "ytjianfhodjapgaa", sum := "eaec4826605cac74cd0fcae7517a88db28325a93e0a1e87b1c81eb6e572228b3", func := "sealring/sealringkeep.StoreOnce", spec := "storeOnce", unfollowed := true, recurses := true, apart := false }
def StoreOnceSaid : Prop := storeOnceRow.holds Try.pinned (OpenSpec.ofChange storeOnceSpec)

/-- ITS FALSE NEIGHBOUR: 'it returns false'. Refute it at one input. -/
def storeOnceWrong : ChangeSpec := { name := "storeOnce", fn := fun _ => fun
  | [d1, d2, d3] => { results := [.lit (.bool false)], args := [d1, d2, d3] }
  | _ => none }
def StoreOnceWrongFalsely : Prop := storeOnceRow.holds Try.pinned (OpenSpec.ofChange storeOnceWrong)

/-- 'sealringkeep.StoreHides': WHATEVER THE INPUT: true; the input reads as it did. -/
def storeHidesSpec : ChangeSpec := { name := "storeHides", fn := fun _ => fun
  | [d1, d2, d3, d4] => { results := [.lit (.bool true)], args := [d1, d2, d3, d4] }
  | _ => none }
def storeHidesRow : OpenClaim := { program := "ytjianfhodjapgaa", sum := "eaec4826605cac74cd0fcae7517a88db28325a93e0a1e87b1c81eb6e572228b3", func := "sealring/sealringkeep.StoreHides", spec := "storeHides", unfollowed := true, recurses := true, apart := false }
def StoreHidesSaid : Prop := storeHidesRow.holds Try.pinned (OpenSpec.ofChange storeHidesSpec)

/-- ITS FALSE NEIGHBOUR: 'it returns false'. Refute it at one input. -/
def storeHidesWrong : ChangeSpec := { name := "storeHides", fn := fun _ => fun
  | [d1, d2, d3, d4] => { results := [.lit (.bool false)], args := [d1, d2, d3, d4] }
  | _ => none }
def StoreHidesWrongFalsely : Prop := storeHidesRow.holds Try.pinned (OpenSpec.ofChange storeHidesWrong)

/-- 'sealringkeep.StoreMore': WHATEVER THE INPUT: true; the input reads as it did. -/
def storeMoreSpec : ChangeSpec := { name := "storeMore", fn := fun _ => fun
  | [d1, d2, d3, d4] => { results := [.lit (.bool true)], args := [d1, d2, d3, d4] }
  | _ => none }
def storeMoreRow : OpenClaim := { program := "ytjianfhodjapgaa", sum := "eaec4826605cac74cd0fcae7517a88db28325a93e0a1e87b1c81eb6e572228b3", func := "sealring/sealringkeep.StoreMore", spec := "storeMore", unfollowed := true, recurses := true, apart := false }
def StoreMoreSaid : Prop := storeMoreRow.holds Try.pinned (OpenSpec.ofChange storeMoreSpec)

/-- ITS FALSE NEIGHBOUR: 'it returns false'. Refute it at one input. -/
def storeMoreWrong : ChangeSpec := { name := "storeMore", fn := fun _ => fun
  | [d1, d2, d3, d4] => { results := [.lit (.bool false)], args := [d1, d2, d3, d4] }
  | _ => none }
def StoreMoreWrongFalsely : Prop := storeMoreRow.holds Try.pinned (OpenSpec.ofChange storeMoreWrong)

/-- 'sealringkeep.StoreBack': WHATEVER THE INPUT: true; the input reads as it did. -/
def storeBackSpec : ChangeSpec := { name := "storeBack", fn := fun _ => fun
  | [d1, d2, d3, d4] => { results := [.lit (.bool true)], args := [d1, d2, d3, d4] }
  | _ => none }
def storeBackRow : OpenClaim := { program := "ytjianfhodjapgaa", sum := "eaec4826605cac74cd0fcae7517a88db28325a93e0a1e87b1c81eb6e572228b3", func := "sealring/sealringkeep.StoreBack", spec := "storeBack", unfollowed := true, recurses := true, apart := false }
def StoreBackSaid : Prop := storeBackRow.holds Try.pinned (OpenSpec.ofChange storeBackSpec)

/-- ITS FALSE NEIGHBOUR: 'it returns false'. Refute it at one input. -/
def storeBackWrong : ChangeSpec := { name := "storeBack", fn := fun _ => fun
  | [d1, d2, d3, d4] => { results := [.lit (.bool false)], args := [d1, d2, d3, d4] }
  | _ => none }
def StoreBackWrongFalsely : Prop := storeBackRow.holds Try.pinned (OpenSpec.ofChange storeBackWrong)

/- THE SECOND FORM. 'bulk': how many values and letters a reading holds, each counted each time it is reached (what is shared counts as often as it is met; a slice's spare places count too). A statement '..UptoSaid' is the law's where the arguments, and the package variables that the reading takes, are together of bulk at most 1048576: NARROWER than '..Said'. Prove '..Said' where nothing that the law and all that it calls make is longer than what came in: it says more and counts as full. Else prove '..UptoSaid'. A law counts once. -/
mutual
def uptoBulk {H : Type} : DataW H → Nat
  | .lit (.string bytes) => bytes.length + 1
  | .lit _ => 1
  | .nil => 1
  | .ptr d => uptoBulk d + 1
  | .slice elems spare => uptoBulkAll elems + uptoBulkAll spare + 1
  | .agg parts => uptoBulkAll parts + 1
  | .iface _ d => uptoBulk d + 1
  | .map entries => uptoBulkEntries entries + 1
  | .held _ => 1
def uptoBulkAll {H : Type} : List (DataW H) → Nat
  | [] => 0
  | d :: r => uptoBulk d + uptoBulkAll r
def uptoBulkEntries {H : Type} : List (Lit × DataW H) → Nat
  | [] => 0
  | x :: r => uptoBulkEntry x + uptoBulkEntries r
def uptoBulkEntry {H : Type} : Lit × DataW H → Nat
  | (.string bytes, d) => bytes.length + uptoBulk d + 1
  | (_, d) => uptoBulk d + 1
 end
def uptoSmall : (H : Type) → List (DataW H) → Bool := fun _ ds => decide (uptoBulkAll ds ≤ 1048576)
def OpenSpec.upto (s : _root_.Go.ChangeSpec) : _root_.Go.OpenSpec := { _root_.Go.OpenSpec.ofChange s with cond := some uptoSmall }

/-- 'sealringkeep.StoreOwner', WHERE WHAT IT READS IS OF BULK AT MOST 1048576: true; the input reads as it did. -/
def storeOwnerUptoRow : OpenClaim := { program := "ytjianfhodjapgaa", sum := "eaec4826605cac74cd0fcae7517a88db28325a93e0a1e87b1c81eb6e572228b3", func := "sealring/sealringkeep.StoreOwner", spec := "storeOwner", unfollowed := true, recurses := true, apart := false, narrowed := true }
def StoreOwnerUptoSaid : Prop := storeOwnerUptoRow.holds Try.pinned (OpenSpec.upto storeOwnerSpec)

/-- 'sealringkeep.StoreOnce', WHERE WHAT IT READS IS OF BULK AT MOST 1048576: true; the input reads as it did. -/
def storeOnceUptoRow : OpenClaim := { program := "ytjianfhodjapgaa", sum := "eaec4826605cac74cd0fcae7517a88db28325a93e0a1e87b1c81eb6e572228b3", func := "sealring/sealringkeep.StoreOnce", spec := "storeOnce", unfollowed := true, recurses := true, apart := false, narrowed := true }
def StoreOnceUptoSaid : Prop := storeOnceUptoRow.holds Try.pinned (OpenSpec.upto storeOnceSpec)

/-- 'sealringkeep.StoreHides', WHERE WHAT IT READS IS OF BULK AT MOST 1048576: true; the input reads as it did. -/
def storeHidesUptoRow : OpenClaim := { program := "ytjianfhodjapgaa", sum := "eaec4826605cac74cd0fcae7517a88db28325a93e0a1e87b1c81eb6e572228b3", func := "sealring/sealringkeep.StoreHides", spec := "storeHides", unfollowed := true, recurses := true, apart := false, narrowed := true }
def StoreHidesUptoSaid : Prop := storeHidesUptoRow.holds Try.pinned (OpenSpec.upto storeHidesSpec)

/-- 'sealringkeep.StoreMore', WHERE WHAT IT READS IS OF BULK AT MOST 1048576: true; the input reads as it did. -/
def storeMoreUptoRow : OpenClaim := { program := "ytjianfhodjapgaa", sum := "eaec4826605cac74cd0fcae7517a88db28325a93e0a1e87b1c81eb6e572228b3", func := "sealring/sealringkeep.StoreMore", spec := "storeMore", unfollowed := true, recurses := true, apart := false, narrowed := true }
def StoreMoreUptoSaid : Prop := storeMoreUptoRow.holds Try.pinned (OpenSpec.upto storeMoreSpec)

/-- 'sealringkeep.StoreBack', WHERE WHAT IT READS IS OF BULK AT MOST 1048576: true; the input reads as it did. -/
def storeBackUptoRow : OpenClaim := { program := "ytjianfhodjapgaa", sum := "eaec4826605cac74cd0fcae7517a88db28325a93e0a1e87b1c81eb6e572228b3", func := "sealring/sealringkeep.StoreBack", spec := "storeBack", unfollowed := true, recurses := true, apart := false, narrowed := true }
def StoreBackUptoSaid : Prop := storeBackUptoRow.holds Try.pinned (OpenSpec.upto storeBackSpec)

end Rows
end Go.Proofs.Ytjianfhodjapgaa
