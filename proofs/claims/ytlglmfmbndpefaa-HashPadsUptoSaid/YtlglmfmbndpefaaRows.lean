/-
  No cell of these rows narrows 'for every input' (looked for: loops, veiled, ifaces, maps, wideKeys, modest, calm, conditions, laid).
  DERIVED. THE GIVEN ROWS OF THIS SEAT. 6 by the template 'for every input the law returns true; each argument reads behind the call as it read before'; 0 by the template 'total and deterministic' (their statements: YtlglmfmbndpefaaTotals.lean).
  GIVEN WITH THE SEED: the statements are not yours to turn. If you find one false, say at which input.
  Laid BY PROGRAM, IN A SANDBOX (cutbox-rows.mjs): the forced cells as the released guide's own fill.sh prints them over the translation 087921ea831674ca… (all of the seat's roots in one cut). By AI agents, Wed Nov 11 2026. No macro, syntax, notation, axiom, sorry.
-/
import Derived.Test.YtlglmfmbndpefaaChecked
import GoSem.Claim
import GoSem.ClaimJoined
import GoSem.ClaimMapViews
import Derived.JoinedTies
import Derived.KernelRfl
namespace Go.Proofs.Ytlglmfmbndpefaa
/- THE CELL 'sum', in the pinned program and in every row, IS THE sha256 OF THE DUMP (.gsa) THAT YtlglmfmbndpefaaProg.lean LOADS. Nothing in Lean hashes anything: it is a label: what it is worth is what the hold of that sum in a sandbox is worth. -/
noncomputable def Try.pinned : Pinned := { name := "ytlglmfmbndpefaa", sum := "087921ea831674ca9fce55e3111491fab1af700271e8150863dfd718cac150ec", checked := Try.checked }
namespace Rows
def none {H : Type} : Left H := { results := [], args := [] }

/-- 'sealringkeep.HashPads': WHATEVER THE INPUT: true; the input reads as it did. -/
def hashPadsSpec : ChangeSpec := { name := "hashPads", fn := fun _ => fun
  | [d1, d2] => { results := [.lit (.bool true)], args := [d1, d2] }
  | _ => none }
def hashPadsRow : OpenClaim := { program := "ytlglmfmbndpefaa", sum := "087921ea831674ca9fce55e3111491fab1af700271e8150863dfd718cac150ec", func := "sealring/sealringkeep.HashPads", spec := "hashPads", apart := false }
def HashPadsSaid : Prop := hashPadsRow.holds Try.pinned (OpenSpec.ofChange hashPadsSpec)

/-- ITS FALSE NEIGHBOUR: 'it returns false'. Refute it at one input. -/
def hashPadsWrong : ChangeSpec := { name := "hashPads", fn := fun _ => fun
  | [d1, d2] => { results := [.lit (.bool false)], args := [d1, d2] }
  | _ => none }
def HashPadsWrongFalsely : Prop := hashPadsRow.holds Try.pinned (OpenSpec.ofChange hashPadsWrong)

/-- 'sealringkeep.AttrMatch': WHATEVER THE INPUT: true; the input reads as it did. -/
def attrMatchSpec : ChangeSpec := { name := "attrMatch", fn := fun _ => fun
  | [d1, d2, d3] => { results := [.lit (.bool true)], args := [d1, d2, d3] }
  | _ => none }
def attrMatchRow : OpenClaim := { program := "ytlglmfmbndpefaa", sum := "087921ea831674ca9fce55e3111491fab1af700271e8150863dfd718cac150ec", func := "sealring/sealringkeep.AttrMatch", spec := "attrMatch", unfollowed := true, recurses := true, apart := false }
def AttrMatchSaid : Prop := attrMatchRow.holds Try.pinned (OpenSpec.ofChange attrMatchSpec)

/-- ITS FALSE NEIGHBOUR: 'it returns false'. Refute it at one input. -/
def attrMatchWrong : ChangeSpec := { name := "attrMatch", fn := fun _ => fun
  | [d1, d2, d3] => { results := [.lit (.bool false)], args := [d1, d2, d3] }
  | _ => none }
def AttrMatchWrongFalsely : Prop := attrMatchRow.holds Try.pinned (OpenSpec.ofChange attrMatchWrong)

/-- 'sealringkeep.DerJoins': WHATEVER THE INPUT: true; the input reads as it did. -/
def derJoinsSpec : ChangeSpec := { name := "derJoins", fn := fun _ => fun
  | [d1, d2] => { results := [.lit (.bool true)], args := [d1, d2] }
  | _ => none }
def derJoinsRow : OpenClaim := { program := "ytlglmfmbndpefaa", sum := "087921ea831674ca9fce55e3111491fab1af700271e8150863dfd718cac150ec", func := "sealring/sealringkeep.DerJoins", spec := "derJoins", apart := false }
def DerJoinsSaid : Prop := derJoinsRow.holds Try.pinned (OpenSpec.ofChange derJoinsSpec)

/-- ITS FALSE NEIGHBOUR: 'it returns false'. Refute it at one input. -/
def derJoinsWrong : ChangeSpec := { name := "derJoins", fn := fun _ => fun
  | [d1, d2] => { results := [.lit (.bool false)], args := [d1, d2] }
  | _ => none }
def DerJoinsWrongFalsely : Prop := derJoinsRow.holds Try.pinned (OpenSpec.ofChange derJoinsWrong)

/-- 'sealringkeep.DerFront': WHATEVER THE INPUT: true; the input reads as it did. -/
def derFrontSpec : ChangeSpec := { name := "derFront", fn := fun _ => fun
  | [d1, d2] => { results := [.lit (.bool true)], args := [d1, d2] }
  | _ => none }
def derFrontRow : OpenClaim := { program := "ytlglmfmbndpefaa", sum := "087921ea831674ca9fce55e3111491fab1af700271e8150863dfd718cac150ec", func := "sealring/sealringkeep.DerFront", spec := "derFront", apart := false }
def DerFrontSaid : Prop := derFrontRow.holds Try.pinned (OpenSpec.ofChange derFrontSpec)

/-- ITS FALSE NEIGHBOUR: 'it returns false'. Refute it at one input. -/
def derFrontWrong : ChangeSpec := { name := "derFront", fn := fun _ => fun
  | [d1, d2] => { results := [.lit (.bool false)], args := [d1, d2] }
  | _ => none }
def DerFrontWrongFalsely : Prop := derFrontRow.holds Try.pinned (OpenSpec.ofChange derFrontWrong)

/-- 'sealringkeep.ScalarBytes': WHATEVER THE INPUT: true; the input reads as it did. -/
def scalarBytesSpec : ChangeSpec := { name := "scalarBytes", fn := fun _ => fun
  | [d1, d2, d3] => { results := [.lit (.bool true)], args := [d1, d2, d3] }
  | _ => none }
def scalarBytesRow : OpenClaim := { program := "ytlglmfmbndpefaa", sum := "087921ea831674ca9fce55e3111491fab1af700271e8150863dfd718cac150ec", func := "sealring/sealringkeep.ScalarBytes", spec := "scalarBytes", inPlace := ["math/bits.Sub64"], apart := false }
def ScalarBytesSaid : Prop := scalarBytesRow.holds Try.pinned (OpenSpec.ofChange scalarBytesSpec)

/-- ITS FALSE NEIGHBOUR: 'it returns false'. Refute it at one input. -/
def scalarBytesWrong : ChangeSpec := { name := "scalarBytes", fn := fun _ => fun
  | [d1, d2, d3] => { results := [.lit (.bool false)], args := [d1, d2, d3] }
  | _ => none }
def ScalarBytesWrongFalsely : Prop := scalarBytesRow.holds Try.pinned (OpenSpec.ofChange scalarBytesWrong)

/-- 'sealringkeep.ShareOrder': WHATEVER THE INPUT: true; the input reads as it did. -/
def shareOrderSpec : ChangeSpec := { name := "shareOrder", fn := fun _ => fun
  | [d1, d2, d3] => { results := [.lit (.bool true)], args := [d1, d2, d3] }
  | _ => none }
def shareOrderRow : OpenClaim := { program := "ytlglmfmbndpefaa", sum := "087921ea831674ca9fce55e3111491fab1af700271e8150863dfd718cac150ec", func := "sealring/sealringkeep.ShareOrder", spec := "shareOrder", inPlace := ["math/bits.Sub64", "math/bits.Add64"], apart := false }
def ShareOrderSaid : Prop := shareOrderRow.holds Try.pinned (OpenSpec.ofChange shareOrderSpec)

/-- ITS FALSE NEIGHBOUR: 'it returns false'. Refute it at one input. -/
def shareOrderWrong : ChangeSpec := { name := "shareOrder", fn := fun _ => fun
  | [d1, d2, d3] => { results := [.lit (.bool false)], args := [d1, d2, d3] }
  | _ => none }
def ShareOrderWrongFalsely : Prop := shareOrderRow.holds Try.pinned (OpenSpec.ofChange shareOrderWrong)

/- THE SECOND FORM. 'bulk': how many values and letters a reading holds, each counted each time it is reached (what is shared counts as often as it is met; a slice's spare places count too). A statement '..UptoSaid' is the law's where the arguments, and the package variables that the reading takes, are together of bulk at most 1048576: NARROWER than '..Said'. Prove '..Said' where nothing that the law and all that it calls make is longer than what came in: it says more and counts as full. Else prove '..UptoSaid'. A law counts once. -/
mutual
def uptoBulk {H : Type} : DataW H → Nat
  | .lit (.string bytes) => bytes.length + 1
  | .lit _ => 1
  | .nil => 1
  | .ptr d => uptoBulk d + 1
  | .slice elems spare => uptoBulkAll elems + uptoBulkAll spare + 1
  | .agg parts => uptoBulkAll parts + 1
  | .iface _ d => uptoBulk d + 1
  | .map entries => uptoBulkEntries entries + 1
  | .held _ => 1
def uptoBulkAll {H : Type} : List (DataW H) → Nat
  | [] => 0
  | d :: r => uptoBulk d + uptoBulkAll r
def uptoBulkEntries {H : Type} : List (Lit × DataW H) → Nat
  | [] => 0
  | x :: r => uptoBulkEntry x + uptoBulkEntries r
def uptoBulkEntry {H : Type} : Lit × DataW H → Nat
  | (.string bytes, d) => bytes.length + uptoBulk d + 1
  | (_, d) => uptoBulk d + 1
 end
def uptoSmall : (H : Type) → List (DataW H) → Bool := fun _ ds => decide (uptoBulkAll ds ≤ 1048576)
def OpenSpec.upto (s : _root_.Go.ChangeSpec) : _root_.Go.OpenSpec := { _root_.Go.OpenSpec.ofChange s with cond := some uptoSmall }

/-- 'sealringkeep.HashPads', WHERE WHAT IT READS IS OF BULK AT MOST 1048576: true; the input reads as it did. -/
def hashPadsUptoRow : OpenClaim := { program := "ytlglmfmbndpefaa", sum := "087921ea831674ca9fce55e3111491fab1af700271e8150863dfd718cac150ec", func := "sealring/sealringkeep.HashPads", spec := "hashPads", apart := false, narrowed := true }
def HashPadsUptoSaid : Prop := hashPadsUptoRow.holds Try.pinned (OpenSpec.upto hashPadsSpec)

/-- 'sealringkeep.AttrMatch', WHERE WHAT IT READS IS OF BULK AT MOST 1048576: true; the input reads as it did. -/
def attrMatchUptoRow : OpenClaim := { program := "ytlglmfmbndpefaa", sum := "087921ea831674ca9fce55e3111491fab1af700271e8150863dfd718cac150ec", func := "sealring/sealringkeep.AttrMatch", spec := "attrMatch", unfollowed := true, recurses := true, apart := false, narrowed := true }
def AttrMatchUptoSaid : Prop := attrMatchUptoRow.holds Try.pinned (OpenSpec.upto attrMatchSpec)

/-- 'sealringkeep.DerJoins', WHERE WHAT IT READS IS OF BULK AT MOST 1048576: true; the input reads as it did. -/
def derJoinsUptoRow : OpenClaim := { program := "ytlglmfmbndpefaa", sum := "087921ea831674ca9fce55e3111491fab1af700271e8150863dfd718cac150ec", func := "sealring/sealringkeep.DerJoins", spec := "derJoins", apart := false, narrowed := true }
def DerJoinsUptoSaid : Prop := derJoinsUptoRow.holds Try.pinned (OpenSpec.upto derJoinsSpec)

/-- 'sealringkeep.DerFront', WHERE WHAT IT READS IS OF BULK AT MOST 1048576: true; the input reads as it did. -/
def derFrontUptoRow : OpenClaim := { program := "ytlglmfmbndpefaa", sum := "087921ea831674ca9fce55e3111491fab1af700271e8150863dfd718cac150ec", func := "sealring/sealringkeep.DerFront", spec := "derFront", apart := false, narrowed := true }
def DerFrontUptoSaid : Prop := derFrontUptoRow.holds Try.pinned (OpenSpec.upto derFrontSpec)

/-- 'sealringkeep.ScalarBytes', WHERE WHAT IT READS IS OF BULK AT MOST 1048576: true; the input reads as it did. -/
def scalarBytesUptoRow : OpenClaim := { program := "ytlglmfmbndpefaa", sum := "087921ea831674ca9fce55e3111491fab1af700271e8150863dfd718cac150ec", func := "sealring/sealringkeep.ScalarBytes", spec := "scalarBytes", inPlace := ["math/bits.Sub64"], apart := false, narrowed := true }
def ScalarBytesUptoSaid : Prop := scalarBytesUptoRow.holds Try.pinned (OpenSpec.upto scalarBytesSpec)

/-- 'sealringkeep.ShareOrder', WHERE WHAT IT READS IS OF BULK AT MOST 1048576: true; the input reads as it did. -/
def shareOrderUptoRow : OpenClaim := { program := "ytlglmfmbndpefaa", sum := "087921ea831674ca9fce55e3111491fab1af700271e8150863dfd718cac150ec", func := "sealring/sealringkeep.ShareOrder", spec := "shareOrder", inPlace := ["math/bits.Sub64", "math/bits.Add64"], apart := false, narrowed := true }
def ShareOrderUptoSaid : Prop := shareOrderUptoRow.holds Try.pinned (OpenSpec.upto shareOrderSpec)

end Rows
end Go.Proofs.Ytlglmfmbndpefaa
