/-
  No cell of these rows narrows 'for every input' (looked for: loops, veiled, ifaces, maps, wideKeys, modest, calm, conditions, laid).
  DERIVED. THE GIVEN ROWS OF THIS SEAT. 7 by the template 'for every input the law returns true; each argument reads behind the call as it read before'; 0 by the template 'total and deterministic' (their statements: YtkgiihfhdhnhlaaTotals.lean).
  GIVEN WITH THE SEED: the statements are not yours to turn. If you find one false, say at which input.
  Laid BY PROGRAM, IN A SANDBOX (cutbox-rows.mjs): the forced cells as the released guide's own fill.sh prints them over the translation bd06e3fa7d93a58d… (all of the seat's roots in one cut). By AI agents, Wed Nov 11 2026. No macro, syntax, notation, axiom, sorry.
-/
import Derived.Test.YtkgiihfhdhnhlaaChecked
import GoSem.Claim
import GoSem.ClaimJoined
import GoSem.ClaimMapViews
import Derived.JoinedTies
import Derived.KernelRfl
namespace Go.Proofs.Ytkgiihfhdhnhlaa
/- THE CELL 'sum', in the pinned program and in every row, IS THE sha256 OF THE DUMP (.gsa) THAT YtkgiihfhdhnhlaaProg.lean LOADS. Nothing in Lean hashes anything: it is a label: what it is worth is what the hold of that sum in a sandbox is worth. -/
noncomputable def Try.pinned : Pinned := { name := "ytkgiihfhdhnhlaa", sum := "bd06e3fa7d93a58dcaa839ea684e89472ede4270a53acf2c628e17ef7168c77c", checked := Try.checked }
namespace Rows
def none {H : Type} : Left H := { results := [], args := [] }

/-- 'sealringkeep.DerJoins': WHATEVER THE INPUT: true; the input reads as it did. -/
def derJoinsSpec : ChangeSpec := { name := "derJoins", fn := fun _ => fun
  | [d1, d2] => { results := [.lit (.bool true)], args := [d1, d2] }
  | _ => none }
def derJoinsRow : OpenClaim := { program := "ytkgiihfhdhnhlaa", sum := "bd06e3fa7d93a58dcaa839ea684e89472ede4270a53acf2c628e17ef7168c77c", func := "sealring/sealringkeep.DerJoins", spec := "derJoins", apart := false }
def DerJoinsSaid : Prop := derJoinsRow.holds Try.pinned (OpenSpec.ofChange derJoinsSpec)

/-- ITS FALSE NEIGHBOUR: 'it returns false'. Refute it at one input. -/
def derJoinsWrong : ChangeSpec := { name := "derJoins", fn := fun _ => fun
  | [d1, d2] => { results := [.lit (.bool false)], args := [d1, d2] }
  | _ => none }
def DerJoinsWrongFalsely : Prop := derJoinsRow.holds Try.pinned (OpenSpec.ofChange derJoinsWrong)

/-- 'sealringkeep.DerFront': WHATEVER THE INPUT: true; the input reads as it did. -/
def derFrontSpec : ChangeSpec := { name := "derFront", fn := fun _ => fun
  | [d1, d2] => { results := [.lit (.bool true)], args := [d1, d2] }
  | _ => none }
def derFrontRow : OpenClaim := { program := "ytkgiihfhdhnhlaa", sum := "bd06e3fa7d93a58dcaa839ea684e89472ede4270a53acf2c628e17ef7168c77c", func := "sealring/sealringkeep.DerFront", spec := "derFront", apart := false }
def DerFrontSaid : Prop := derFrontRow.holds Try.pinned (OpenSpec.ofChange derFrontSpec)

/-- ITS FALSE NEIGHBOUR: 'it returns false'. Refute it at one input. -/
def derFrontWrong : ChangeSpec := { name := "derFront", fn := fun _ => fun
  | [d1, d2] => { results := [.lit (.bool false)], args := [d1, d2] }
  | _ => none }
def DerFrontWrongFalsely : Prop := derFrontRow.holds Try.pinned (OpenSpec.ofChange derFrontWrong)

/-- 'sealringkeep.DerHexes': WHATEVER THE INPUT: true; the input reads as it did. -/
def derHexesSpec : ChangeSpec := { name := "derHexes", fn := fun _ => fun
  | [d1, d2] => { results := [.lit (.bool true)], args := [d1, d2] }
  | _ => none }
def derHexesRow : OpenClaim := { program := "ytkgiihfhdhnhlaa", sum := "bd06e3fa7d93a58dcaa839ea684e89472ede4270a53acf2c628e17ef7168c77c", func := "sealring/sealringkeep.DerHexes", spec := "derHexes", inPlace := ["internal/abi.NoEscape", "internal/bytealg.IndexByteString"], apart := false }
def DerHexesSaid : Prop := derHexesRow.holds Try.pinned (OpenSpec.ofChange derHexesSpec)

/-- ITS FALSE NEIGHBOUR: 'it returns false'. Refute it at one input. -/
def derHexesWrong : ChangeSpec := { name := "derHexes", fn := fun _ => fun
  | [d1, d2] => { results := [.lit (.bool false)], args := [d1, d2] }
  | _ => none }
def DerHexesWrongFalsely : Prop := derHexesRow.holds Try.pinned (OpenSpec.ofChange derHexesWrong)

/-- 'sealringkeep.DerOrder': WHATEVER THE INPUT: true; the input reads as it did. -/
def derOrderSpec : ChangeSpec := { name := "derOrder", fn := fun _ => fun
  | [d1, d2, d3] => { results := [.lit (.bool true)], args := [d1, d2, d3] }
  | _ => none }
def derOrderRow : OpenClaim := { program := "ytkgiihfhdhnhlaa", sum := "bd06e3fa7d93a58dcaa839ea684e89472ede4270a53acf2c628e17ef7168c77c", func := "sealring/sealringkeep.DerOrder", spec := "derOrder", inPlace := ["internal/bytealg.Compare"], apart := false }
def DerOrderSaid : Prop := derOrderRow.holds Try.pinned (OpenSpec.ofChange derOrderSpec)

/-- ITS FALSE NEIGHBOUR: 'it returns false'. Refute it at one input. -/
def derOrderWrong : ChangeSpec := { name := "derOrder", fn := fun _ => fun
  | [d1, d2, d3] => { results := [.lit (.bool false)], args := [d1, d2, d3] }
  | _ => none }
def DerOrderWrongFalsely : Prop := derOrderRow.holds Try.pinned (OpenSpec.ofChange derOrderWrong)

/-- 'sealringkeep.DerBack': WHATEVER THE INPUT: true; the input reads as it did. -/
def derBackSpec : ChangeSpec := { name := "derBack", fn := fun _ => fun
  | [d] => { results := [.lit (.bool true)], args := [d] }
  | _ => none }
def derBackRow : OpenClaim := { program := "ytkgiihfhdhnhlaa", sum := "bd06e3fa7d93a58dcaa839ea684e89472ede4270a53acf2c628e17ef7168c77c", func := "sealring/sealringkeep.DerBack", spec := "derBack", apart := false }
def DerBackSaid : Prop := derBackRow.holds Try.pinned (OpenSpec.ofChange derBackSpec)

/-- ITS FALSE NEIGHBOUR: 'it returns false'. Refute it at one input. -/
def derBackWrong : ChangeSpec := { name := "derBack", fn := fun _ => fun
  | [d] => { results := [.lit (.bool false)], args := [d] }
  | _ => none }
def DerBackWrongFalsely : Prop := derBackRow.holds Try.pinned (OpenSpec.ofChange derBackWrong)

/-- 'sealringkeep.DerOne': WHATEVER THE INPUT: true; the input reads as it did. -/
def derOneSpec : ChangeSpec := { name := "derOne", fn := fun _ => fun
  | [d] => { results := [.lit (.bool true)], args := [d] }
  | _ => none }
def derOneRow : OpenClaim := { program := "ytkgiihfhdhnhlaa", sum := "bd06e3fa7d93a58dcaa839ea684e89472ede4270a53acf2c628e17ef7168c77c", func := "sealring/sealringkeep.DerOne", spec := "derOne", apart := false }
def DerOneSaid : Prop := derOneRow.holds Try.pinned (OpenSpec.ofChange derOneSpec)

/-- ITS FALSE NEIGHBOUR: 'it returns false'. Refute it at one input. -/
def derOneWrong : ChangeSpec := { name := "derOne", fn := fun _ => fun
  | [d] => { results := [.lit (.bool false)], args := [d] }
  | _ => none }
def DerOneWrongFalsely : Prop := derOneRow.holds Try.pinned (OpenSpec.ofChange derOneWrong)

/-- 'sealringkeep.DerCuts': WHATEVER THE INPUT: true; the input reads as it did. -/
def derCutsSpec : ChangeSpec := { name := "derCuts", fn := fun _ => fun
  | [d1, d2] => { results := [.lit (.bool true)], args := [d1, d2] }
  | _ => none }
def derCutsRow : OpenClaim := { program := "ytkgiihfhdhnhlaa", sum := "bd06e3fa7d93a58dcaa839ea684e89472ede4270a53acf2c628e17ef7168c77c", func := "sealring/sealringkeep.DerCuts", spec := "derCuts", apart := false }
def DerCutsSaid : Prop := derCutsRow.holds Try.pinned (OpenSpec.ofChange derCutsSpec)

/-- ITS FALSE NEIGHBOUR: 'it returns false'. Refute it at one input. -/
def derCutsWrong : ChangeSpec := { name := "derCuts", fn := fun _ => fun
  | [d1, d2] => { results := [.lit (.bool false)], args := [d1, d2] }
  | _ => none }
def DerCutsWrongFalsely : Prop := derCutsRow.holds Try.pinned (OpenSpec.ofChange derCutsWrong)

/- THE SECOND FORM. 'bulk': how many values and letters a reading holds, each counted each time it is reached (what is shared counts as often as it is met; a slice's spare places count too). A statement '..UptoSaid' is the law's where the arguments, and the package variables that the reading takes, are together of bulk at most 1048576: NARROWER than '..Said'. Prove '..Said' where nothing that the law and all that it calls make is longer than what came in: it says more and counts as full. Else prove '..UptoSaid'. A law counts once. -/
mutual
def uptoBulk {H : Type} : DataW H → Nat
  | .lit (.string bytes) => bytes.length + 1
  | .lit _ => 1
  | .nil => 1
  | .ptr d => uptoBulk d + 1
  | .slice elems spare => uptoBulkAll elems + uptoBulkAll spare + 1
  | .agg parts => uptoBulkAll parts + 1
  | .iface _ d => uptoBulk d + 1
  | .map entries => uptoBulkEntries entries + 1
  | .held _ => 1
def uptoBulkAll {H : Type} : List (DataW H) → Nat
  | [] => 0
  | d :: r => uptoBulk d + uptoBulkAll r
def uptoBulkEntries {H : Type} : List (Lit × DataW H) → Nat
  | [] => 0
  | x :: r => uptoBulkEntry x + uptoBulkEntries r
def uptoBulkEntry {H : Type} : Lit × DataW H → Nat
  | (.string bytes, d) => bytes.length + uptoBulk d + 1
  | (_, d) => uptoBulk d + 1
 end
def uptoSmall : (H : Type) → List (DataW H) → Bool := fun _ ds => decide (uptoBulkAll ds ≤ 1048576)
def OpenSpec.upto (s : _root_.Go.ChangeSpec) : _root_.Go.OpenSpec := { _root_.Go.OpenSpec.ofChange s with cond := some uptoSmall }

/-- 'sealringkeep.DerJoins', WHERE WHAT IT READS IS OF BULK AT MOST 1048576: true; the input reads as it did. -/
def derJoinsUptoRow : OpenClaim := { program := "ytkgiihfhdhnhlaa", sum := "bd06e3fa7d93a58dcaa839ea684e89472ede4270a53acf2c628e17ef7168c77c", func := "sealring/sealringkeep.DerJoins", spec := "derJoins", apart := false, narrowed := true }
def DerJoinsUptoSaid : Prop := derJoinsUptoRow.holds Try.pinned (OpenSpec.upto derJoinsSpec)

/-- 'sealringkeep.DerFront', WHERE WHAT IT READS IS OF BULK AT MOST 1048576: true; the input reads as it did. -/
def derFrontUptoRow : OpenClaim := { program := "ytkgiihfhdhnhlaa", sum := "bd06e3fa7d93a58dcaa839ea684e89472ede4270a53acf2c628e17ef7168c77c", func := "sealring/sealringkeep.DerFront", spec := "derFront", apart := false, narrowed := true }
def DerFrontUptoSaid : Prop := derFrontUptoRow.holds Try.pinned (OpenSpec.upto derFrontSpec)

/-- 'sealringkeep.DerHexes', WHERE WHAT IT READS IS OF BULK AT MOST 1048576: true; the input reads as it did. -/
def derHexesUptoRow : OpenClaim := { program := "ytkgiihfhdhnhlaa", sum := "bd06e3fa7d93a58dcaa839ea684e89472ede4270a53acf2c628e17ef7168c77c", func := "sealring/sealringkeep.DerHexes", spec := "derHexes", inPlace := ["internal/abi.NoEscape", "internal/bytealg.IndexByteString"], apart := false, narrowed := true }
def DerHexesUptoSaid : Prop := derHexesUptoRow.holds Try.pinned (OpenSpec.upto derHexesSpec)

/-- 'sealringkeep.DerOrder', WHERE WHAT IT READS IS OF BULK AT MOST 1048576: true; the input reads as it did. -/
def derOrderUptoRow : OpenClaim := { program := "ytkgiihfhdhnhlaa", sum := "bd06e3fa7d93a58dcaa839ea684e89472ede4270a53acf2c628e17ef7168c77c", func := "sealring/sealringkeep.DerOrder", spec := "derOrder", inPlace := ["internal/bytealg.Compare"], apart := false, narrowed := true }
def DerOrderUptoSaid : Prop := derOrderUptoRow.holds Try.pinned (OpenSpec.upto derOrderSpec)

/-- 'sealringkeep.DerBack', WHERE WHAT IT READS IS OF BULK AT MOST 1048576: true; the input reads as it did. -/
def derBackUptoRow : OpenClaim := { program := "ytkgiihfhdhnhlaa", sum := "bd06e3fa7d93a58dcaa839ea684e89472ede4270a53acf2c628e17ef7168c77c", func := "sealring/sealringkeep.DerBack", spec := "derBack", apart := false, narrowed := true }
def DerBackUptoSaid : Prop := derBackUptoRow.holds Try.pinned (OpenSpec.upto derBackSpec)

/-- 'sealringkeep.DerOne', WHERE WHAT IT READS IS OF BULK AT MOST 1048576: true; the input reads as it did. -/
def derOneUptoRow : OpenClaim := { program := "ytkgiihfhdhnhlaa", sum := "bd06e3fa7d93a58dcaa839ea684e89472ede4270a53acf2c628e17ef7168c77c", func := "sealring/sealringkeep.DerOne", spec := "derOne", apart := false, narrowed := true }
def DerOneUptoSaid : Prop := derOneUptoRow.holds Try.pinned (OpenSpec.upto derOneSpec)

/-- 'sealringkeep.DerCuts', WHERE WHAT IT READS IS OF BULK AT MOST 1048576: true; the input reads as it did. -/
def derCutsUptoRow : OpenClaim := { program := "ytkgiihfhdhnhlaa", sum := "bd06e3fa7d93a58dcaa839ea684e89472ede4270a53acf2c628e17ef7168c77c", func := "sealring/sealringkeep.DerCuts", spec := "derCuts", apart := false, narrowed := true }
def DerCutsUptoSaid : Prop := derCutsUptoRow.holds Try.pinned (OpenSpec.upto derCutsSpec)

end Rows
end Go.Proofs.Ytkgiihfhdhnhlaa
