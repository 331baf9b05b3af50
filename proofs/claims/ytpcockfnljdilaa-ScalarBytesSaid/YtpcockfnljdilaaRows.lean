/-
  No cell of these rows narrows 'for every input' (looked for: loops, veiled, ifaces, maps, wideKeys, modest, calm, conditions, laid).
  DERIVED. THE GIVEN ROWS OF THIS SEAT. 8 by the template 'for every input the law returns true; each argument reads behind the call as it read before'; 0 by the template 'total and deterministic' (their statements: YtpcockfnljdilaaTotals.lean).
  GIVEN WITH THE SEED: the statements are not yours to turn. If you find one false, say at which input.
  Laid BY PROGRAM, IN A SANDBOX (cutbox-rows.mjs): the forced cells as the released guide's own fill.sh prints them over the translation 4f9f424fcac1618c… (all of the seat's roots in one cut). By AI agents, Wed Nov 11 2026. No macro, syntax, notation, axiom, sorry.
-/
import Derived.Test.YtpcockfnljdilaaChecked
import GoSem.Claim
import GoSem.ClaimJoined
import GoSem.ClaimMapViews
import Derived.JoinedTies
import Derived.KernelRfl
namespace Go.Proofs.Ytpcockfnljdilaa
/- THE CELL 'sum', in the pinned program and in every row, IS THE sha256 OF THE DUMP (.gsa) THAT YtpcockfnljdilaaProg.lean LOADS. Nothing in Lean hashes anything: it is a label: what it is worth is what the hold of that sum in a sandbox is worth. -/
noncomputable def Try.pinned : Pinned := { name := "ytpcockfnljdilaa", sum := "4f9f424fcac1618c10af61db3b8569faa54f057df428d31d255cf93c459da4e9", checked := Try.checked }
namespace Rows
def none {H : Type} : Left H := { results := [], args := [] }

/-- 'sealringkeep.DerHexes': WHATEVER THE INPUT: true; the input reads as it did. -/
def derHexesSpec : ChangeSpec := { name := "derHexes", fn := fun _ => fun
  | [d1, d2] => { results := [.lit (.bool true)], args := [d1, d2] }
  | _ => none }
def derHexesRow : OpenClaim := { program := "ytpcockfnljdilaa", sum := "4f9f424fcac1618c10af61db3b8569faa54f057df428d31d255cf93c459da4e9", func := "sealring/sealringkeep.DerHexes", spec := "derHexes", inPlace := ["internal/abi.NoEscape", "internal/bytealg.IndexByteString"], apart := false }
def DerHexesSaid : Prop := derHexesRow.holds Try.pinned (OpenSpec.ofChange derHexesSpec)

/-- ITS FALSE NEIGHBOUR: 'it returns false'. Refute it at one input. -/
def derHexesWrong : ChangeSpec := { name := "derHexes", fn := fun _ => fun
  | [d1, d2] => { results := [.lit (.bool false)], args := [d1, d2] }
  | _ => none }
def DerHexesWrongFalsely : Prop := derHexesRow.holds Try.pinned (OpenSpec.ofChange derHexesWrong)

/-- 'sealringkeep.DerOrder': WHATEVER THE INPUT: true; the input reads as it did. -/
def derOrderSpec : ChangeSpec := { name := "derOrder", fn := fun _ => fun
  | [d1, d2, d3] => { results := [.lit (.bool true)], args := [d1, d2, d3] }
  | _ => none }
def derOrderRow : OpenClaim := { program := "ytpcockfnljdilaa", sum := "4f9f424fcac1618c10af61db3b8569faa54f057df428d31d255cf93c459da4e9", func := "sealring/sealringkeep.DerOrder", spec := "derOrder", inPlace := ["internal/bytealg.Compare"], apart := false }
def DerOrderSaid : Prop := derOrderRow.holds Try.pinned (OpenSpec.ofChange derOrderSpec)

/-- ITS FALSE NEIGHBOUR: 'it returns false'. Refute it at one input. -/
def derOrderWrong : ChangeSpec := { name := "derOrder", fn := fun _ => fun
  | [d1, d2, d3] => { results := [.lit (.bool false)], args := [d1, d2, d3] }
  | _ => none }
def DerOrderWrongFalsely : Prop := derOrderRow.holds Try.pinned (OpenSpec.ofChange derOrderWrong)

/-- 'sealringkeep.DerBack': WHATEVER THE INPUT: true; the input reads as it did. -/
def derBackSpec : ChangeSpec := { name := "derBack", fn := fun _ => fun
  | [d] => { results := [.lit (.bool true)], args := [d] }
  | _ => none }
def derBackRow : OpenClaim := { program := "ytpcockfnljdilaa", sum := "4f9f424fcac1618c10af61db3b8569faa54f057df428d31d255cf93c459da4e9", func := "sealring/sealringkeep.DerBack", spec := "derBack", apart := false }
def DerBackSaid : Prop := derBackRow.holds Try.pinned (OpenSpec.ofChange derBackSpec)

/-- ITS FALSE NEIGHBOUR: 'it returns false'. Refute it at one input. -/
def derBackWrong : ChangeSpec := { name := "derBack", fn := fun _ => fun
  | [d] => { results := [.lit (.bool false)], args := [d] }
  | _ => none }
def DerBackWrongFalsely : Prop := derBackRow.holds Try.pinned (OpenSpec.ofChange derBackWrong)

/-- 'sealringkeep.DerOne': WHATEVER THE INPUT: true; the input reads as it did. -/
def derOneSpec : ChangeSpec := { name := "derOne", fn := fun _ => fun
  | [d] => { results := [.lit (.bool true)], args := [d] }
  | _ => none }
def derOneRow : OpenClaim := { program := "ytpcockfnljdilaa", sum := "4f9f424fcac1618c10af61db3b8569faa54f057df428d31d255cf93c459da4e9", func := "sealring/sealringkeep.DerOne", spec := "derOne", apart := false }
def DerOneSaid : Prop := derOneRow.holds Try.pinned (OpenSpec.ofChange derOneSpec)

/-- ITS FALSE NEIGHBOUR: 'it returns false'. Refute it at one input. -/
def derOneWrong : ChangeSpec := { name := "derOne", fn := fun _ => fun
  | [d] => { results := [.lit (.bool false)], args := [d] }
  | _ => none }
def DerOneWrongFalsely : Prop := derOneRow.holds Try.pinned (OpenSpec.ofChange derOneWrong)

/-- 'sealringkeep.DerCuts': WHATEVER THE INPUT: true; the input reads as it did. -/
def derCutsSpec : ChangeSpec := { name := "derCuts", fn := fun _ => fun
  | [d1, d2] => { results := [.lit (.bool true)], args := [d1, d2] }
  | _ => none }
def derCutsRow : OpenClaim := { program := "ytpcockfnljdilaa", sum := "4f9f424fcac1618c10af61db3b8569faa54f057df428d31d255cf93c459da4e9", func := "sealring/sealringkeep.DerCuts", spec := "derCuts", apart := false }
def DerCutsSaid : Prop := derCutsRow.holds Try.pinned (OpenSpec.ofChange derCutsSpec)

/-- ITS FALSE NEIGHBOUR: 'it returns false'. Refute it at one input. -/
def derCutsWrong : ChangeSpec := { name := "derCuts", fn := fun _ => fun
  | [d1, d2] => { results := [.lit (.bool false)], args := [d1, d2] }
  | _ => none }
def DerCutsWrongFalsely : Prop := derCutsRow.holds Try.pinned (OpenSpec.ofChange derCutsWrong)

/-- 'sealringkeep.AttrMatch': WHATEVER THE INPUT: true; the input reads as it did. -/
def attrMatchSpec : ChangeSpec := { name := "attrMatch", fn := fun _ => fun
  | [d1, d2, d3] => { results := [.lit (.bool true)], args := [d1, d2, d3] }
  | _ => none }
def attrMatchRow : OpenClaim := { program := "ytpcockfnljdilaa", sum := "4f9f424fcac1618c10af61db3b8569faa54f057df428d31d255cf93c459da4e9", func := "sealring/sealringkeep.AttrMatch", spec := "attrMatch", unfollowed := true, recurses := true, apart := false }
def AttrMatchSaid : Prop := attrMatchRow.holds Try.pinned (OpenSpec.ofChange attrMatchSpec)

/-- ITS FALSE NEIGHBOUR: 'it returns false'. Refute it at one input. -/
def attrMatchWrong : ChangeSpec := { name := "attrMatch", fn := fun _ => fun
  | [d1, d2, d3] => { results := [.lit (.bool false)], args := [d1, d2, d3] }
  | _ => none }
def AttrMatchWrongFalsely : Prop := attrMatchRow.holds Try.pinned (OpenSpec.ofChange attrMatchWrong)

/-- 'sealringkeep.ScalarBytes': WHATEVER THE INPUT: true; the input reads as it did. -/
def scalarBytesSpec : ChangeSpec := { name := "scalarBytes", fn := fun _ => fun
  | [d1, d2, d3] => { results := [.lit (.bool true)], args := [d1, d2, d3] }
  | _ => none }
def scalarBytesRow : OpenClaim := { program := "ytpcockfnljdilaa", sum := "4f9f424fcac1618c10af61db3b8569faa54f057df428d31d255cf93c459da4e9", func := "sealring/sealringkeep.ScalarBytes", spec := "scalarBytes", inPlace := ["math/bits.Sub64"], apart := false }
def ScalarBytesSaid : Prop := scalarBytesRow.holds Try.pinned (OpenSpec.ofChange scalarBytesSpec)

/-- ITS FALSE NEIGHBOUR: 'it returns false'. Refute it at one input. -/
def scalarBytesWrong : ChangeSpec := { name := "scalarBytes", fn := fun _ => fun
  | [d1, d2, d3] => { results := [.lit (.bool false)], args := [d1, d2, d3] }
  | _ => none }
def ScalarBytesWrongFalsely : Prop := scalarBytesRow.holds Try.pinned (OpenSpec.ofChange scalarBytesWrong)

/-- 'sealringkeep.ShareOrder': WHATEVER THE INPUT: true; the input reads as it did. -/
def shareOrderSpec : ChangeSpec := { name := "shareOrder", fn := fun _ => fun
  | [d1, d2, d3] => { results := [.lit (.bool true)], args := [d1, d2, d3] }
  | _ => none }
def shareOrderRow : OpenClaim := { program := "ytpcockfnljdilaa", sum := "4f9f424fcac1618c10af61db3b8569faa54f057df428d31d255cf93c459da4e9", func := "sealring/sealringkeep.ShareOrder", spec := "shareOrder", inPlace := ["math/bits.Sub64", "math/bits.Add64"], apart := false }
def ShareOrderSaid : Prop := shareOrderRow.holds Try.pinned (OpenSpec.ofChange shareOrderSpec)

/-- ITS FALSE NEIGHBOUR: 'it returns false'. Refute it at one input. -/
def shareOrderWrong : ChangeSpec := { name := "shareOrder", fn := fun _ => fun
  | [d1, d2, d3] => { results := [.lit (.bool false)], args := [d1, d2, d3] }
  | _ => none }
def ShareOrderWrongFalsely : Prop := shareOrderRow.holds Try.pinned (OpenSpec.ofChange shareOrderWrong)

/- THE SECOND FORM. 'bulk': how many values and letters a reading holds, each counted each time it is reached (what is shared counts as often as it is met; a slice's spare places count too). A statement '..UptoSaid' is the law's where the arguments, and the package variables that the reading takes, are together of bulk at most 1048576: NARROWER than '..Said'. Prove '..Said' where nothing that the law and all that it calls make is longer than what came in: it says more and counts as full. Else prove '..UptoSaid'. A law counts once. -/
mutual
def uptoBulk {H : Type} : DataW H → Nat
  | .lit (.string bytes) => bytes.length + 1
  | .lit _ => 1
  | .nil => 1
  | .ptr d => uptoBulk d + 1
  | .slice elems spare => uptoBulkAll elems + uptoBulkAll spare + 1
  | .agg parts => uptoBulkAll parts + 1
  | .iface _ d => uptoBulk d + 1
  | .map entries => uptoBulkEntries entries + 1
  | .held _ => 1
def uptoBulkAll {H : Type} : List (DataW H) → Nat
  | [] => 0
  | d :: r => uptoBulk d + uptoBulkAll r
def uptoBulkEntries {H : Type} : List (Lit × DataW H) → Nat
  | [] => 0
  | x :: r => uptoBulkEntry x + uptoBulkEntries r
def uptoBulkEntry {H : Type} : Lit × DataW H → Nat
  | (.string bytes, d) => bytes.length + uptoBulk d + 1
  | (_, d) => uptoBulk d + 1
 end
def uptoSmall : (H : Type) → List (DataW H) → Bool := fun _ ds => decide (uptoBulkAll ds ≤ 1048576)
def OpenSpec.upto (s : _root_.Go.ChangeSpec) : _root_.Go.OpenSpec := { _root_.Go.OpenSpec.ofChange s with cond := some uptoSmall }

/-- 'sealringkeep.DerHexes', WHERE WHAT IT READS IS OF BULK AT MOST 1048576: true; the input reads as it did. -/
def derHexesUptoRow : OpenClaim := { program := "ytpcockfnljdilaa", sum := "4f9f424fcac1618c10af61db3b8569faa54f057df428d31d255cf93c459da4e9", func := "sealring/sealringkeep.DerHexes", spec := "derHexes", inPlace := ["internal/abi.NoEscape", "internal/bytealg.IndexByteString"], apart := false, narrowed := true }
def DerHexesUptoSaid : Prop := derHexesUptoRow.holds Try.pinned (OpenSpec.upto derHexesSpec)

/-- 'sealringkeep.DerOrder', WHERE WHAT IT READS IS OF BULK AT MOST 1048576: true; the input reads as it did. -/
def derOrderUptoRow : OpenClaim := { program := "ytpcockfnljdilaa", sum := "4f9f424fcac1618c10af61db3b8569faa54f057df428d31d255cf93c459da4e9", func := "sealring/sealringkeep.DerOrder", spec := "derOrder", inPlace := ["internal/bytealg.Compare"], apart := false, narrowed := true }
def DerOrderUptoSaid : Prop := derOrderUptoRow.holds Try.pinned (OpenSpec.upto derOrderSpec)

/-- 'sealringkeep.DerBack', WHERE WHAT IT READS IS OF BULK AT MOST 1048576: true; the input reads as it did. -/
def derBackUptoRow : OpenClaim := { program := "ytpcockfnljdilaa", sum := "4f9f424fcac1618c10af61db3b8569faa54f057df428d31d255cf93c459da4e9", func := "sealring/sealringkeep.DerBack", spec := "derBack", apart := false, narrowed := true }
def DerBackUptoSaid : Prop := derBackUptoRow.holds Try.pinned (OpenSpec.upto derBackSpec)

/-- 'sealringkeep.DerOne', WHERE WHAT IT READS IS OF BULK AT MOST 1048576: true; the input reads as it did. -/
def derOneUptoRow : OpenClaim := { program := "ytpcockfnljdilaa", sum := "4f9f424fcac1618c10af61db3b8569faa54f057df428d31d255cf93c459da4e9", func := "sealring/sealringkeep.DerOne", spec := "derOne", apart := false, narrowed := true }
def DerOneUptoSaid : Prop := derOneUptoRow.holds Try.pinned (OpenSpec.upto derOneSpec)

/-- 'sealringkeep.DerCuts', WHERE WHAT IT READS IS OF BULK AT MOST 1048576: true; the input reads as it did. -/
def derCutsUptoRow : OpenClaim := { program := "ytpcockfnljdilaa", sum := "4f9f424fcac1618c10af61db3b8569faa54f057df428d31d255cf93c459da4e9", func := "sealring/sealringkeep.DerCuts", spec := "derCuts", apart := false, narrowed := true }
def DerCutsUptoSaid : Prop := derCutsUptoRow.holds Try.pinned (OpenSpec.upto derCutsSpec)

/-- 'sealringkeep.AttrMatch', WHERE WHAT IT READS IS OF BULK AT MOST 1048576: true; the input reads as it did. -/
def attrMatchUptoRow : OpenClaim := { program := "ytpcockfnljdilaa", sum := "4f9f424fcac1618c10af61db3b8569faa54f057df428d31d255cf93c459da4e9", func := "sealring/sealringkeep.AttrMatch", spec := "attrMatch", unfollowed := true, recurses := true, apart := false, narrowed := true }
def AttrMatchUptoSaid : Prop := attrMatchUptoRow.holds Try.pinned (OpenSpec.upto attrMatchSpec)

/-- 'sealringkeep.ScalarBytes', WHERE WHAT IT READS IS OF BULK AT MOST 1048576: true; the input reads as it did. -/
def scalarBytesUptoRow : OpenClaim := { program := "ytpcockfnljdilaa", sum := "4f9f424fcac1618c10af61db3b8569faa54f057df428d31d255cf93c459da4e9", func := "sealring/sealringkeep.ScalarBytes", spec := "scalarBytes", inPlace := ["math/bits.Sub64"], apart := false, narrowed := true }
def ScalarBytesUptoSaid : Prop := scalarBytesUptoRow.holds Try.pinned (OpenSpec.upto scalarBytesSpec)

/-- 'sealringkeep.ShareOrder', WHERE WHAT IT READS IS OF BULK AT MOST 1048576: true; the input reads as it did. -/
def shareOrderUptoRow : OpenClaim := { program := "ytpcockfnljdilaa", sum := "4f9f424fcac1618c10af61db3b8569faa54f057df428d31d255cf93c459da4e9", func := "sealring/sealringkeep.ShareOrder", spec := "shareOrder", inPlace := ["math/bits.Sub64", "math/bits.Add64"], apart := false, narrowed := true }
def ShareOrderUptoSaid : Prop := shareOrderUptoRow.holds Try.pinned (OpenSpec.upto shareOrderSpec)

end Rows
end Go.Proofs.Ytpcockfnljdilaa
