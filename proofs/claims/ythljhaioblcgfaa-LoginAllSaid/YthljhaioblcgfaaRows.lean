/-
  No cell of these rows narrows 'for every input' (looked for: loops, veiled, ifaces, maps, wideKeys, modest, calm, conditions, laid).
  DERIVED. THE GIVEN ROWS OF THIS SEAT. 4 by the template 'for every input the law returns true; each argument reads behind the call as it read before'; 0 by the template 'total and deterministic' (their statements: YthljhaioblcgfaaTotals.lean).
  GIVEN WITH THE SEED: the statements are not yours to turn. If you find one false, say at which input.
  Laid BY PROGRAM, IN A SANDBOX (cutbox-rows.mjs): the forced cells as the released guide's own fill.sh prints them over the translation f176acbe6a26e245… (all of the seat's roots in one cut). By AI agents, Wed Nov 11 2026. No macro, syntax, notation, axiom, sorry.
-/
import Derived.Test.YthljhaioblcgfaaChecked
import GoSem.Claim
import GoSem.ClaimJoined
import GoSem.ClaimMapViews
import Derived.JoinedTies
import Derived.KernelRfl
namespace Go.Proofs.Ythljhaioblcgfaa
/- THE CELL 'sum', in the pinned program and in every row, IS THE sha256 OF THE DUMP (.gsa) THAT YthljhaioblcgfaaProg.lean LOADS. Nothing in Lean hashes anything: it is a label: what it is worth is what the hold of that sum in a sandbox is worth. -/
noncomputable def Try.pinned : Pinned := { name := "ythljhaioblcgfaa", sum := "f176acbe6a26e24546e7049ac71fc1355d40e1a71113165c161b377f168809d3", checked := Try.checked }
namespace Rows
def none {H : Type} : Left H := { results := [], args := [] }

/-- 'sealringkeep.LoginBack': WHATEVER THE INPUT: true; the input reads as it did. -/
def loginBackSpec : ChangeSpec := { name := "loginBack", fn := fun _ => fun
  | [d1, d2, d3, d4] => { results := [.lit (.bool true)], args := [d1, d2, d3, d4] }
  | _ => none }
def loginBackRow : OpenClaim := { program := "ythljhaioblcgfaa", sum := "f176acbe6a26e24546e7049ac71fc1355d40e1a71113165c161b377f168809d3", func := "sealring/sealringkeep.LoginBack", spec := "loginBack", apart := false }
def LoginBackSaid : Prop := loginBackRow.holds Try.pinned (OpenSpec.ofChange loginBackSpec)

/-- ITS FALSE NEIGHBOUR: 'it returns false'. Refute it at one input. -/
def loginBackWrong : ChangeSpec := { name := "loginBack", fn := fun _ => fun
  | [d1, d2, d3, d4] => { results := [.lit (.bool false)], args := [d1, d2, d3, d4] }
  | _ => none }
def LoginBackWrongFalsely : Prop := loginBackRow.holds Try.pinned (OpenSpec.ofChange loginBackWrong)

/-- 'sealringkeep.LoginAll': WHATEVER THE INPUT: true; the input reads as it did. -/
def loginAllSpec : ChangeSpec := { name := "loginAll", fn := fun _ => fun
  | [d1, d2] => { results := [.lit (.bool true)], args := [d1, d2] }
  | _ => none }
def loginAllRow : OpenClaim := { program := "ythljhaioblcgfaa", sum := "f176acbe6a26e24546e7049ac71fc1355d40e1a71113165c161b377f168809d3", func := "sealring/sealringkeep.LoginAll", spec := "loginAll", unfollowed := true, recurses := true, apart := false }
def LoginAllSaid : Prop := loginAllRow.holds Try.pinned (OpenSpec.ofChange loginAllSpec)

/-- ITS FALSE NEIGHBOUR: 'it returns false'. Refute it at one input. -/
def loginAllWrong : ChangeSpec := { name := "loginAll", fn := fun _ => fun
  | [d1, d2] => { results := [.lit (.bool false)], args := [d1, d2] }
  | _ => none }
def LoginAllWrongFalsely : Prop := loginAllRow.holds Try.pinned (OpenSpec.ofChange loginAllWrong)

/-- 'sealringkeep.LoginRefused': WHATEVER THE INPUT: true; the input reads as it did. -/
def loginRefusedSpec : ChangeSpec := { name := "loginRefused", fn := fun _ => fun
  | [d1, d2] => { results := [.lit (.bool true)], args := [d1, d2] }
  | _ => none }
def loginRefusedRow : OpenClaim := { program := "ythljhaioblcgfaa", sum := "f176acbe6a26e24546e7049ac71fc1355d40e1a71113165c161b377f168809d3", func := "sealring/sealringkeep.LoginRefused", spec := "loginRefused", unfollowed := true, recurses := true, apart := false }
def LoginRefusedSaid : Prop := loginRefusedRow.holds Try.pinned (OpenSpec.ofChange loginRefusedSpec)

/-- ITS FALSE NEIGHBOUR: 'it returns false'. Refute it at one input. -/
def loginRefusedWrong : ChangeSpec := { name := "loginRefused", fn := fun _ => fun
  | [d1, d2] => { results := [.lit (.bool false)], args := [d1, d2] }
  | _ => none }
def LoginRefusedWrongFalsely : Prop := loginRefusedRow.holds Try.pinned (OpenSpec.ofChange loginRefusedWrong)

/-- 'sealringkeep.LoginIds': WHATEVER THE INPUT: true; the input reads as it did. -/
def loginIdsSpec : ChangeSpec := { name := "loginIds", fn := fun _ => fun
  | [d1, d2] => { results := [.lit (.bool true)], args := [d1, d2] }
  | _ => none }
def loginIdsRow : OpenClaim := { program := "ythljhaioblcgfaa", sum := "f176acbe6a26e24546e7049ac71fc1355d40e1a71113165c161b377f168809d3", func := "sealring/sealringkeep.LoginIds", spec := "loginIds", unfollowed := true, recurses := true, apart := false }
def LoginIdsSaid : Prop := loginIdsRow.holds Try.pinned (OpenSpec.ofChange loginIdsSpec)

/-- ITS FALSE NEIGHBOUR: 'it returns false'. Refute it at one input. -/
def loginIdsWrong : ChangeSpec := { name := "loginIds", fn := fun _ => fun
  | [d1, d2] => { results := [.lit (.bool false)], args := [d1, d2] }
  | _ => none }
def LoginIdsWrongFalsely : Prop := loginIdsRow.holds Try.pinned (OpenSpec.ofChange loginIdsWrong)

/- THE SECOND FORM. 'bulk': how many values and letters a reading holds, each counted each time it is reached (what is shared counts as often as it is met; a slice's spare places count too). A statement '..UptoSaid' is the law's where the arguments, and the package variables that the reading takes, are together of bulk at most 1048576: NARROWER than '..Said'. Prove '..Said' where nothing that the law and all that it calls make is longer than what came in: it says more and counts as full. Else prove '..UptoSaid'. A law counts once. -/
mutual
def uptoBulk {H : Type} : DataW H → Nat
  | .lit (.string bytes) => bytes.length + 1
  | .lit _ => 1
  | .nil => 1
  | .ptr d => uptoBulk d + 1
  | .slice elems spare => uptoBulkAll elems + uptoBulkAll spare + 1
  | .agg parts => uptoBulkAll parts + 1
  | .iface _ d => uptoBulk d + 1
  | .map entries => uptoBulkEntries entries + 1
  | .held _ => 1
def uptoBulkAll {H : Type} : List (DataW H) → Nat
  | [] => 0
  | d :: r => uptoBulk d + uptoBulkAll r
def uptoBulkEntries {H : Type} : List (Lit × DataW H) → Nat
  | [] => 0
  | x :: r => uptoBulkEntry x + uptoBulkEntries r
def uptoBulkEntry {H : Type} : Lit × DataW H → Nat
  | (.string bytes, d) => bytes.length + uptoBulk d + 1
  | (_, d) => uptoBulk d + 1
 end
def uptoSmall : (H : Type) → List (DataW H) → Bool := fun _ ds => decide (uptoBulkAll ds ≤ 1048576)
def OpenSpec.upto (s : _root_.Go.ChangeSpec) : _root_.Go.OpenSpec := { _root_.Go.OpenSpec.ofChange s with cond := some uptoSmall }

/-- 'sealringkeep.LoginBack', WHERE WHAT IT READS IS OF BULK AT MOST 1048576: true; the input reads as it did. -/
def loginBackUptoRow : OpenClaim := { program := "ythljhaioblcgfaa", sum := "f176acbe6a26e24546e7049ac71fc1355d40e1a71113165c161b377f168809d3", func := "sealring/sealringkeep.LoginBack", spec := "loginBack", apart := false, narrowed := true }
def LoginBackUptoSaid : Prop := loginBackUptoRow.holds Try.pinned (OpenSpec.upto loginBackSpec)

/-- 'sealringkeep.LoginAll', WHERE WHAT IT READS IS OF BULK AT MOST 1048576: true; the input reads as it did. -/
def loginAllUptoRow : OpenClaim := { program := "ythljhaioblcgfaa", sum := "f176acbe6a26e24546e7049ac71fc1355d40e1a71113165c161b377f168809d3", func := "sealring/sealringkeep.LoginAll", spec := "loginAll", unfollowed := true, recurses := true, apart := false, narrowed := true }
def LoginAllUptoSaid : Prop := loginAllUptoRow.holds Try.pinned (OpenSpec.upto loginAllSpec)

/-- 'sealringkeep.LoginRefused', WHERE WHAT IT READS IS OF BULK AT MOST 1048576: true; the input reads as it did. -/
def loginRefusedUptoRow : OpenClaim := { program := "ythljhaioblcgfaa", sum := "f176acbe6a26e24546e7049ac71fc1355d40e1a71113165c161b377f168809d3", func := "sealring/sealringkeep.LoginRefused", spec := "loginRefused", unfollowed := true, recurses := true, apart := false, narrowed := true }
def LoginRefusedUptoSaid : Prop := loginRefusedUptoRow.holds Try.pinned (OpenSpec.upto loginRefusedSpec)

/-- 'sealringkeep.LoginIds', WHERE WHAT IT READS IS OF BULK AT MOST 1048576: true; the input reads as it did. -/
def loginIdsUptoRow : OpenClaim := { program := "ythljhaioblcgfaa", sum := "f176acbe6a26e24546e7049ac71fc1355d40e1a71113165c161b377f168809d3", func := "sealring/sealringkeep.LoginIds", spec := "loginIds", unfollowed := true, recurses := true, apart := false, narrowed := true }
def LoginIdsUptoSaid : Prop := loginIdsUptoRow.holds Try.pinned (OpenSpec.upto loginIdsSpec)

end Rows
end Go.Proofs.Ythljhaioblcgfaa
