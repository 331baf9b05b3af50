/-
  No cell of these rows narrows 'for every input' (looked for: loops, veiled, ifaces, maps, wideKeys, modest, calm, conditions, laid).
  DERIVED. THE GIVEN ROWS OF THIS SEAT. 6 by the template 'for every input the law returns true; each argument reads behind the call as it read before'; 0 by the template 'total and deterministic' (their statements: YtglbnbdeoenilaaTotals.lean).
  GIVEN WITH THE SEED: the statements are not yours to turn. If you find one false, say at which input.
  Laid BY PROGRAM, IN A SANDBOX (cutbox-rows.mjs): the forced cells as the released guide's own fill.sh prints them over the translation 0905a4831888d9bb… (all of the seat's roots in one cut). By AI agents, Wed Nov 11 2026. No macro, syntax, notation, axiom, sorry.
-/
import Derived.Test.YtglbnbdeoenilaaChecked
import GoSem.Claim
import GoSem.ClaimJoined
import GoSem.ClaimMapViews
import Derived.JoinedTies
import Derived.KernelRfl
namespace Go.Proofs.Ytglbnbdeoenilaa
/- THE CELL 'sum', in the pinned program and in every row, IS THE sha256 OF THE DUMP (.gsa) THAT YtglbnbdeoenilaaProg.lean LOADS. Nothing in Lean hashes anything: it is a label: what it is worth is what the hold of that sum in a sandbox is worth. -/
noncomputable def Try.pinned : Pinned := { name := "ytglbnbdeoenilaa", sum := "0905a4831888d9bbf7379a00e56853b4d26a0f38ef136c70c51f3b4241005704", checked := Try.checked }
namespace Rows
def none {H : Type} : Left H := { results := [], args := [] }

/-- 'sealringkeep.DerHexes': WHATEVER THE INPUT: true; the input reads as it did. -/
def derHexesSpec : ChangeSpec := { name := "derHexes", fn := fun _ => fun
  | [d1, d2] => { results := [.lit (.bool true)], args := [d1, d2] }
  | _ => none }
def derHexesRow : OpenClaim := { program := "ytglbnbdeoenilaa", sum := "0905a4831888d9bbf7379a00e56853b4d26a0f38ef136c70c51f3b4241005704", func := "sealring/sealringkeep.DerHexes", spec := "derHexes", inPlace := ["internal/abi.NoEscape", "internal/bytealg.IndexByteString"], apart := false }
def DerHexesSaid : Prop := derHexesRow.holds Try.pinned (OpenSpec.ofChange derHexesSpec)

/-- ITS FALSE NEIGHBOUR: 'it returns false'. Refute it at one input. -/
def derHexesWrong : ChangeSpec := { name := "derHexes", fn := fun _ => fun
  | [d1, d2] => { results := [.lit (.bool false)], args := [d1, d2] }
  | _ => none }
def DerHexesWrongFalsely : Prop := derHexesRow.holds Try.pinned (OpenSpec.ofChange derHexesWrong)

/-- 'sealringkeep.ShareOrder': WHATEVER THE INPUT: true; the input reads as it did. -/
def shareOrderSpec : ChangeSpec := { name := "shareOrder", fn := fun _ => fun
  | [d1, d2, d3] => { results := [.lit (.bool true)], args := [d1, d2, d3] }
  | _ => none }
def shareOrderRow : OpenClaim := { program := "ytglbnbdeoenilaa", sum := "0905a4831888d9bbf7379a00e56853b4d26a0f38ef136c70c51f3b4241005704", func := "sealring/sealringkeep.ShareOrder", spec := "shareOrder", inPlace := ["math/bits.Sub64", "math/bits.Add64"], apart := false }
def ShareOrderSaid : Prop := shareOrderRow.holds Try.pinned (OpenSpec.ofChange shareOrderSpec)

/-- ITS FALSE NEIGHBOUR: 'it returns false'. Refute it at one input. -/
def shareOrderWrong : ChangeSpec := { name := "shareOrder", fn := fun _ => fun
  | [d1, d2, d3] => { results := [.lit (.bool false)], args := [d1, d2, d3] }
  | _ => none }
def ShareOrderWrongFalsely : Prop := shareOrderRow.holds Try.pinned (OpenSpec.ofChange shareOrderWrong)

/-- 'sealringkeep.LoginBack': WHATEVER THE INPUT: true; the input reads as it did. -/
def loginBackSpec : ChangeSpec := { name := "loginBack", fn := fun _ => fun
  | [d1, d2, d3, d4] => { results := [.lit (.bool true)], args := [d1, d2, d3, d4] }
  | _ => none }
def loginBackRow : OpenClaim := { program := "ytglbnbdeoenilaa", sum := "0905a4831888d9bbf7379a00e56853b4d26a0f38ef136c70c51f3b4241005704", func := "sealring/sealringkeep.LoginBack", spec := "loginBack", apart := false }
def LoginBackSaid : Prop := loginBackRow.holds Try.pinned (OpenSpec.ofChange loginBackSpec)

/-- ITS FALSE NEIGHBOUR: 'it returns false'. Refute it at one input. -/
def loginBackWrong : ChangeSpec := { name := "loginBack", fn := fun _ => fun
  | [d1, d2, d3, d4] => { results := [.lit (.bool false)], args := [d1, d2, d3, d4] }
  | _ => none }
def LoginBackWrongFalsely : Prop := loginBackRow.holds Try.pinned (OpenSpec.ofChange loginBackWrong)

/-- 'sealringkeep.LoginAll': WHATEVER THE INPUT: true; the input reads as it did. -/
def loginAllSpec : ChangeSpec := { name := "loginAll", fn := fun _ => fun
  | [d1, d2] => { results := [.lit (.bool true)], args := [d1, d2] }
  | _ => none }
def loginAllRow : OpenClaim := { program := "ytglbnbdeoenilaa", sum := "0905a4831888d9bbf7379a00e56853b4d26a0f38ef136c70c51f3b4241005704", func := "sealring/sealringkeep.LoginAll", spec := "loginAll", unfollowed := true, recurses := true, apart := false }
def LoginAllSaid : Prop := loginAllRow.holds Try.pinned (OpenSpec.ofChange loginAllSpec)

/-- ITS FALSE NEIGHBOUR: 'it returns false'. Refute it at one input. -/
def loginAllWrong : ChangeSpec := { name := "loginAll", fn := fun _ => fun
  | [d1, d2] => { results := [.lit (.bool false)], args := [d1, d2] }
  | _ => none }
def LoginAllWrongFalsely : Prop := loginAllRow.holds Try.pinned (OpenSpec.ofChange loginAllWrong)

/-- 'sealringkeep.LoginRefused': WHATEVER THE INPUT: true; the input reads as it did. -/
def loginRefusedSpec : ChangeSpec := { name := "loginRefused", fn := fun _ => fun
  | [d1, d2] => { results := [.lit (.bool true)], args := [d1, d2] }
  | _ => none }
def loginRefusedRow : OpenClaim := { program := "ytglbnbdeoenilaa", sum := "0905a4831888d9bbf7379a00e56853b4d26a0f38ef136c70c51f3b4241005704", func := "sealring/sealringkeep.LoginRefused", spec := "loginRefused", unfollowed := true, recurses := true, apart := false }
def LoginRefusedSaid : Prop := loginRefusedRow.holds Try.pinned (OpenSpec.ofChange loginRefusedSpec)

/-- ITS FALSE NEIGHBOUR: 'it returns false'. Refute it at one input. -/
def loginRefusedWrong : ChangeSpec := { name := "loginRefused", fn := fun _ => fun
  | [d1, d2] => { results := [.lit (.bool false)], args := [d1, d2] }
  | _ => none }
def LoginRefusedWrongFalsely : Prop := loginRefusedRow.holds Try.pinned (OpenSpec.ofChange loginRefusedWrong)

/-- 'sealringkeep.LoginIds': WHATEVER THE INPUT: true; the input reads as it did. -/
def loginIdsSpec : ChangeSpec := { name := "loginIds", fn := fun _ => fun
  | [d1, d2] => { results := [.lit (.bool true)], args := [d1, d2] }
  | _ => none }
def loginIdsRow : OpenClaim := { program := "ytglbnbdeoenilaa", sum := "0905a4831888d9bbf7379a00e56853b4d26a0f38ef136c70c51f3b4241005704", func := "sealring/sealringkeep.LoginIds", spec := "loginIds", unfollowed := true, recurses := true, apart := false }
def LoginIdsSaid : Prop := loginIdsRow.holds Try.pinned (OpenSpec.ofChange loginIdsSpec)

/-- ITS FALSE NEIGHBOUR: 'it returns false'. Refute it at one input. -/
def loginIdsWrong : ChangeSpec := { name := "loginIds", fn := fun _ => fun
  | [d1, d2] => { results := [.lit (.bool false)], args := [d1, d2] }
  | _ => none }
def LoginIdsWrongFalsely : Prop := loginIdsRow.holds Try.pinned (OpenSpec.ofChange loginIdsWrong)

/- THE SECOND FORM. 'bulk': how many values and letters a reading holds, each counted each time it is reached (what is shared counts as often as it is met; a slice's spare places count too). A statement '..UptoSaid' is the law's where the arguments, and the package variables that the reading takes, are together of bulk at most 1048576: NARROWER than '..Said'. Prove '..Said' where nothing that the law and all that it calls make is longer than what came in: it says more and counts as full. Else prove '..UptoSaid'. A law counts once. -/
mutual
def uptoBulk {H : Type} : DataW H → Nat
  | .lit (.string bytes) => bytes.length + 1
  | .lit _ => 1
  | .nil => 1
  | .ptr d => uptoBulk d + 1
  | .slice elems spare => uptoBulkAll elems + uptoBulkAll spare + 1
  | .agg parts => uptoBulkAll parts + 1
  | .iface _ d => uptoBulk d + 1
  | .map entries => uptoBulkEntries entries + 1
  | .held _ => 1
def uptoBulkAll {H : Type} : List (DataW H) → Nat
  | [] => 0
  | d :: r => uptoBulk d + uptoBulkAll r
def uptoBulkEntries {H : Type} : List (Lit × DataW H) → Nat
  | [] => 0
  | x :: r => uptoBulkEntry x + uptoBulkEntries r
def uptoBulkEntry {H : Type} : Lit × DataW H → Nat
  | (.string bytes, d) => bytes.length + uptoBulk d + 1
  | (_, d) => uptoBulk d + 1
 end
def uptoSmall : (H : Type) → List (DataW H) → Bool := fun _ ds => decide (uptoBulkAll ds ≤ 1048576)
def OpenSpec.upto (s : _root_.Go.ChangeSpec) : _root_.Go.OpenSpec := { _root_.Go.OpenSpec.ofChange s with cond := some uptoSmall }

/-- 'sealringkeep.DerHexes', WHERE WHAT IT READS IS OF BULK AT MOST 1048576: true; the input reads as it did. -/
def derHexesUptoRow : OpenClaim := { program := "ytglbnbdeoenilaa", sum := "0905a4831888d9bbf7379a00e56853b4d26a0f38ef136c70c51f3b4241005704", func := "sealring/sealringkeep.DerHexes", spec := "derHexes", inPlace := ["internal/abi.NoEscape", "internal/bytealg.IndexByteString"], apart := false, narrowed := true }
def DerHexesUptoSaid : Prop := derHexesUptoRow.holds Try.pinned (OpenSpec.upto derHexesSpec)

/-- 'sealringkeep.ShareOrder', WHERE WHAT IT READS IS OF BULK AT MOST 1048576: true; the input reads as it did. -/
def shareOrderUptoRow : OpenClaim := { program := "ytglbnbdeoenilaa", sum := "0905a4831888d9bbf7379a00e56853b4d26a0f38ef136c70c51f3b4241005704", func := "sealring/sealringkeep.ShareOrder", spec := "shareOrder", inPlace := ["math/bits.Sub64", "math/bits.Add64"], apart := false, narrowed := true }
def ShareOrderUptoSaid : Prop := shareOrderUptoRow.holds Try.pinned (OpenSpec.upto shareOrderSpec)

/-- 'sealringkeep.LoginBack', WHERE WHAT IT READS IS OF BULK AT MOST 1048576: true; the input reads as it did. -/
def loginBackUptoRow : OpenClaim := { program := "ytglbnbdeoenilaa", sum := "0905a4831888d9bbf7379a00e56853b4d26a0f38ef136c70c51f3b4241005704", func := "sealring/sealringkeep.LoginBack", spec := "loginBack", apart := false, narrowed := true }
def LoginBackUptoSaid : Prop := loginBackUptoRow.holds Try.pinned (OpenSpec.upto loginBackSpec)

/-- 'sealringkeep.LoginAll', WHERE WHAT IT READS IS OF BULK AT MOST 1048576: true; the input reads as it did. -/
def loginAllUptoRow : OpenClaim := { program := "ytglbnbdeoenilaa", sum := "0905a4831888d9bbf7379a00e56853b4d26a0f38ef136c70c51f3b4241005704", func := "sealring/sealringkeep.LoginAll", spec := "loginAll", unfollowed := true, recurses := true, apart := false, narrowed := true }
def LoginAllUptoSaid : Prop := loginAllUptoRow.holds Try.pinned (OpenSpec.upto loginAllSpec)

/-- 'sealringkeep.LoginRefused', WHERE WHAT IT READS IS OF BULK AT MOST 1048576: true; the input reads as it did. -/
def loginRefusedUptoRow : OpenClaim := { program := "ytglbnbdeoenilaa", sum := "0905a4831888d9bbf7379a00e56853b4d26a0f38ef136c70c51f3b4241005704", func := "sealring/sealringkeep.LoginRefused", spec := "loginRefused", unfollowed := true, recurses := true, apart := false, narrowed := true }
def LoginRefusedUptoSaid : Prop := loginRefusedUptoRow.holds Try.pinned (OpenSpec.upto loginRefusedSpec)

/-- 'sealringkeep.LoginIds', WHERE WHAT IT READS IS OF BULK AT MOST 1048576: true; the input reads as it did. -/
def loginIdsUptoRow : OpenClaim := { program := "ytglbnbdeoenilaa", sum := "0905a4831888d9bbf7379a00e56853b4d26a0f38ef136c70c51f3b4241005704", func := "sealring/sealringkeep.LoginIds", spec := "loginIds", unfollowed := true, recurses := true, apart := false, narrowed := true }
def LoginIdsUptoSaid : Prop := loginIdsUptoRow.holds Try.pinned (OpenSpec.upto loginIdsSpec)

end Rows
end Go.Proofs.Ytglbnbdeoenilaa
