/-
  No cell of these rows narrows 'for every input' (looked for: loops, veiled, ifaces, maps, wideKeys, modest, calm, conditions, laid).
  DERIVED. THE GIVEN ROWS OF THIS SEAT. 9 by the template 'for every input the law returns true; each argument reads behind the call as it read before'; 0 by the template 'total and deterministic' (their statements: YtlpalhagndmpjaaTotals.lean).
  GIVEN WITH THE SEED: the statements are not yours to turn. If you find one false, say at which input.
  Laid BY PROGRAM, IN A SANDBOX (cutbox-rows.mjs): the forced cells as the released guide's own fill.sh prints them over the translation a9751ac879969fa1… (all of the seat's roots in one cut). By AI agents, Wed Nov 11 2026. No macro, syntax, notation, axiom, sorry.
-/
import Derived.Test.YtlpalhagndmpjaaChecked
import GoSem.Claim
import GoSem.ClaimJoined
import GoSem.ClaimMapViews
import Derived.JoinedTies
import Derived.KernelRfl
namespace Go.Proofs.Ytlpalhagndmpjaa
/- THE CELL 'sum', in the pinned program and in every row, IS THE sha256 OF THE DUMP (.gsa) THAT YtlpalhagndmpjaaProg.lean LOADS. Nothing in Lean hashes anything: it is a label: what it is worth is what the hold of that sum in a sandbox is worth. -/
noncomputable def Try.pinned : Pinned := { name := "ytlpalhagndmpjaa", sum := "a9751ac879969fa1971f922593a82ad1dc41131438b7b4787601cf4e4db520a4", checked := Try.checked }
namespace Rows
def none {H : Type} : Left H := { results := [], args := [] }

/-- 'sealringkeep.AttrNorm': WHATEVER THE INPUT: true; the input reads as it did. -/
def attrNormSpec : ChangeSpec := { name := "attrNorm", fn := fun _ => fun
  | [d] => { results := [.lit (.bool true)], args := [d] }
  | _ => none }
def attrNormRow : OpenClaim := { program := "ytlpalhagndmpjaa", sum := "a9751ac879969fa1971f922593a82ad1dc41131438b7b4787601cf4e4db520a4", func := "sealring/sealringkeep.AttrNorm", spec := "attrNorm", unfollowed := true, recurses := true, apart := false }
def AttrNormSaid : Prop := attrNormRow.holds Try.pinned (OpenSpec.ofChange attrNormSpec)

/-- ITS FALSE NEIGHBOUR: 'it returns false'. Refute it at one input. -/
def attrNormWrong : ChangeSpec := { name := "attrNorm", fn := fun _ => fun
  | [d] => { results := [.lit (.bool false)], args := [d] }
  | _ => none }
def AttrNormWrongFalsely : Prop := attrNormRow.holds Try.pinned (OpenSpec.ofChange attrNormWrong)

/-- 'sealringkeep.AttrOver': WHATEVER THE INPUT: true; the input reads as it did. -/
def attrOverSpec : ChangeSpec := { name := "attrOver", fn := fun _ => fun
  | [d1, d2, d3] => { results := [.lit (.bool true)], args := [d1, d2, d3] }
  | _ => none }
def attrOverRow : OpenClaim := { program := "ytlpalhagndmpjaa", sum := "a9751ac879969fa1971f922593a82ad1dc41131438b7b4787601cf4e4db520a4", func := "sealring/sealringkeep.AttrOver", spec := "attrOver", unfollowed := true, recurses := true, apart := false }
def AttrOverSaid : Prop := attrOverRow.holds Try.pinned (OpenSpec.ofChange attrOverSpec)

/-- ITS FALSE NEIGHBOUR: 'it returns false'. Refute it at one input. -/
def attrOverWrong : ChangeSpec := { name := "attrOver", fn := fun _ => fun
  | [d1, d2, d3] => { results := [.lit (.bool false)], args := [d1, d2, d3] }
  | _ => none }
def AttrOverWrongFalsely : Prop := attrOverRow.holds Try.pinned (OpenSpec.ofChange attrOverWrong)

/-- 'sealringkeep.AttrOne': WHATEVER THE INPUT: true; the input reads as it did. -/
def attrOneSpec : ChangeSpec := { name := "attrOne", fn := fun _ => fun
  | [d] => { results := [.lit (.bool true)], args := [d] }
  | _ => none }
def attrOneRow : OpenClaim := { program := "ytlpalhagndmpjaa", sum := "a9751ac879969fa1971f922593a82ad1dc41131438b7b4787601cf4e4db520a4", func := "sealring/sealringkeep.AttrOne", spec := "attrOne", unfollowed := true, recurses := true, apart := false }
def AttrOneSaid : Prop := attrOneRow.holds Try.pinned (OpenSpec.ofChange attrOneSpec)

/-- ITS FALSE NEIGHBOUR: 'it returns false'. Refute it at one input. -/
def attrOneWrong : ChangeSpec := { name := "attrOne", fn := fun _ => fun
  | [d] => { results := [.lit (.bool false)], args := [d] }
  | _ => none }
def AttrOneWrongFalsely : Prop := attrOneRow.holds Try.pinned (OpenSpec.ofChange attrOneWrong)

/-- 'sealringkeep.AttrBack': WHATEVER THE INPUT: true; the input reads as it did. -/
def attrBackSpec : ChangeSpec := { name := "attrBack", fn := fun _ => fun
  | [d] => { results := [.lit (.bool true)], args := [d] }
  | _ => none }
def attrBackRow : OpenClaim := { program := "ytlpalhagndmpjaa", sum := "a9751ac879969fa1971f922593a82ad1dc41131438b7b4787601cf4e4db520a4", func := "sealring/sealringkeep.AttrBack", spec := "attrBack", unfollowed := true, recurses := true, apart := false }
def AttrBackSaid : Prop := attrBackRow.holds Try.pinned (OpenSpec.ofChange attrBackSpec)

/-- ITS FALSE NEIGHBOUR: 'it returns false'. Refute it at one input. -/
def attrBackWrong : ChangeSpec := { name := "attrBack", fn := fun _ => fun
  | [d] => { results := [.lit (.bool false)], args := [d] }
  | _ => none }
def AttrBackWrongFalsely : Prop := attrBackRow.holds Try.pinned (OpenSpec.ofChange attrBackWrong)

/-- 'sealringkeep.RuleSame': WHATEVER THE INPUT: true; the input reads as it did. -/
def ruleSameSpec : ChangeSpec := { name := "ruleSame", fn := fun _ => fun
  | [d1, d2, d3] => { results := [.lit (.bool true)], args := [d1, d2, d3] }
  | _ => none }
def ruleSameRow : OpenClaim := { program := "ytlpalhagndmpjaa", sum := "a9751ac879969fa1971f922593a82ad1dc41131438b7b4787601cf4e4db520a4", func := "sealring/sealringkeep.RuleSame", spec := "ruleSame", unfollowed := true, recurses := true, apart := false }
def RuleSameSaid : Prop := ruleSameRow.holds Try.pinned (OpenSpec.ofChange ruleSameSpec)

/-- ITS FALSE NEIGHBOUR: 'it returns false'. Refute it at one input. -/
def ruleSameWrong : ChangeSpec := { name := "ruleSame", fn := fun _ => fun
  | [d1, d2, d3] => { results := [.lit (.bool false)], args := [d1, d2, d3] }
  | _ => none }
def RuleSameWrongFalsely : Prop := ruleSameRow.holds Try.pinned (OpenSpec.ofChange ruleSameWrong)

/-- 'sealringkeep.RuleSticky': WHATEVER THE INPUT: true; the input reads as it did. -/
def ruleStickySpec : ChangeSpec := { name := "ruleSticky", fn := fun _ => fun
  | [d1, d2, d3] => { results := [.lit (.bool true)], args := [d1, d2, d3] }
  | _ => none }
def ruleStickyRow : OpenClaim := { program := "ytlpalhagndmpjaa", sum := "a9751ac879969fa1971f922593a82ad1dc41131438b7b4787601cf4e4db520a4", func := "sealring/sealringkeep.RuleSticky", spec := "ruleSticky", unfollowed := true, recurses := true, apart := false }
def RuleStickySaid : Prop := ruleStickyRow.holds Try.pinned (OpenSpec.ofChange ruleStickySpec)

/-- ITS FALSE NEIGHBOUR: 'it returns false'. Refute it at one input. -/
def ruleStickyWrong : ChangeSpec := { name := "ruleSticky", fn := fun _ => fun
  | [d1, d2, d3] => { results := [.lit (.bool false)], args := [d1, d2, d3] }
  | _ => none }
def RuleStickyWrongFalsely : Prop := ruleStickyRow.holds Try.pinned (OpenSpec.ofChange ruleStickyWrong)

/-- 'sealringkeep.RuleFixed': WHATEVER THE INPUT: true; the input reads as it did. -/
def ruleFixedSpec : ChangeSpec := { name := "ruleFixed", fn := fun _ => fun
  | [d1, d2, d3] => { results := [.lit (.bool true)], args := [d1, d2, d3] }
  | _ => none }
def ruleFixedRow : OpenClaim := { program := "ytlpalhagndmpjaa", sum := "a9751ac879969fa1971f922593a82ad1dc41131438b7b4787601cf4e4db520a4", func := "sealring/sealringkeep.RuleFixed", spec := "ruleFixed", unfollowed := true, recurses := true, apart := false }
def RuleFixedSaid : Prop := ruleFixedRow.holds Try.pinned (OpenSpec.ofChange ruleFixedSpec)

/-- ITS FALSE NEIGHBOUR: 'it returns false'. Refute it at one input. -/
def ruleFixedWrong : ChangeSpec := { name := "ruleFixed", fn := fun _ => fun
  | [d1, d2, d3] => { results := [.lit (.bool false)], args := [d1, d2, d3] }
  | _ => none }
def RuleFixedWrongFalsely : Prop := ruleFixedRow.holds Try.pinned (OpenSpec.ofChange ruleFixedWrong)

/-- 'sealringkeep.RuleSides': WHATEVER THE INPUT: true; the input reads as it did. -/
def ruleSidesSpec : ChangeSpec := { name := "ruleSides", fn := fun _ => fun
  | [d1, d2, d3] => { results := [.lit (.bool true)], args := [d1, d2, d3] }
  | _ => none }
def ruleSidesRow : OpenClaim := { program := "ytlpalhagndmpjaa", sum := "a9751ac879969fa1971f922593a82ad1dc41131438b7b4787601cf4e4db520a4", func := "sealring/sealringkeep.RuleSides", spec := "ruleSides", unfollowed := true, recurses := true, apart := false }
def RuleSidesSaid : Prop := ruleSidesRow.holds Try.pinned (OpenSpec.ofChange ruleSidesSpec)

/-- ITS FALSE NEIGHBOUR: 'it returns false'. Refute it at one input. -/
def ruleSidesWrong : ChangeSpec := { name := "ruleSides", fn := fun _ => fun
  | [d1, d2, d3] => { results := [.lit (.bool false)], args := [d1, d2, d3] }
  | _ => none }
def RuleSidesWrongFalsely : Prop := ruleSidesRow.holds Try.pinned (OpenSpec.ofChange ruleSidesWrong)

/-- 'sealringkeep.RuleValid': WHATEVER THE INPUT: true; the input reads as it did. -/
def ruleValidSpec : ChangeSpec := { name := "ruleValid", fn := fun _ => fun
  | [d1, d2, d3] => { results := [.lit (.bool true)], args := [d1, d2, d3] }
  | _ => none }
def ruleValidRow : OpenClaim := { program := "ytlpalhagndmpjaa", sum := "a9751ac879969fa1971f922593a82ad1dc41131438b7b4787601cf4e4db520a4", func := "sealring/sealringkeep.RuleValid", spec := "ruleValid", unfollowed := true, recurses := true, apart := false }
def RuleValidSaid : Prop := ruleValidRow.holds Try.pinned (OpenSpec.ofChange ruleValidSpec)

/-- ITS FALSE NEIGHBOUR: 'it returns false'. Refute it at one input. -/
def ruleValidWrong : ChangeSpec := { name := "ruleValid", fn := fun _ => fun
  | [d1, d2, d3] => { results := [.lit (.bool false)], args := [d1, d2, d3] }
  | _ => none }
def RuleValidWrongFalsely : Prop := ruleValidRow.holds Try.pinned (OpenSpec.ofChange ruleValidWrong)

/- THE SECOND FORM. 'bulk': how many values and letters a reading holds, each counted each time it is reached (what is shared counts as often as it is met; a slice's spare places count too). A statement '..UptoSaid' is the law's where the arguments, and the package variables that the reading takes, are together of bulk at most 1048576: NARROWER than '..Said'. Prove '..Said' where nothing that the law and all that it calls make is longer than what came in: it says more and counts as full. Else prove '..UptoSaid'. A law counts once. -/
mutual
def uptoBulk {H : Type} : DataW H → Nat
  | .lit (.string bytes) => bytes.length + 1
  | .lit _ => 1
  | .nil => 1
  | .ptr d => uptoBulk d + 1
  | .slice elems spare => uptoBulkAll elems + uptoBulkAll spare + 1
  | .agg parts => uptoBulkAll parts + 1
  | .iface _ d => uptoBulk d + 1
  | .map entries => uptoBulkEntries entries + 1
  | .held _ => 1
def uptoBulkAll {H : Type} : List (DataW H) → Nat
  | [] => 0
  | d :: r => uptoBulk d + uptoBulkAll r
def uptoBulkEntries {H : Type} : List (Lit × DataW H) → Nat
  | [] => 0
  | x :: r => uptoBulkEntry x + uptoBulkEntries r
def uptoBulkEntry {H : Type} : Lit × DataW H → Nat
  | (.string bytes, d) => bytes.length + uptoBulk d + 1
  | (_, d) => uptoBulk d + 1
 end
def uptoSmall : (H : Type) → List (DataW H) → Bool := fun _ ds => decide (uptoBulkAll ds ≤ 1048576)
def OpenSpec.upto (s : _root_.Go.ChangeSpec) : _root_.Go.OpenSpec := { _root_.Go.OpenSpec.ofChange s with cond := some uptoSmall }

/-- 'sealringkeep.AttrNorm', WHERE WHAT IT READS IS OF BULK AT MOST 1048576: true; the input reads as it did. -/
def attrNormUptoRow : OpenClaim := { program := "ytlpalhagndmpjaa", sum := "a9751ac879969fa1971f922593a82ad1dc41131438b7b4787601cf4e4db520a4", func := "sealring/sealringkeep.AttrNorm", spec := "attrNorm", unfollowed := true, recurses := true, apart := false, narrowed := true }
def AttrNormUptoSaid : Prop := attrNormUptoRow.holds Try.pinned (OpenSpec.upto attrNormSpec)

/-- 'sealringkeep.AttrOver', WHERE WHAT IT READS IS OF BULK AT MOST 1048576: true; the input reads as it did. -/
def attrOverUptoRow : OpenClaim := { program := "ytlpalhagndmpjaa", sum := "a9751ac879969fa1971f922593a82ad1dc41131438b7b4787601cf4e4db520a4", func := "sealring/sealringkeep.AttrOver", spec := "attrOver", unfollowed := true, recurses := true, apart := false, narrowed := true }
def AttrOverUptoSaid : Prop := attrOverUptoRow.holds Try.pinned (OpenSpec.upto attrOverSpec)

/-- 'sealringkeep.AttrOne', WHERE WHAT IT READS IS OF BULK AT MOST 1048576: true; the input reads as it did. -/
def attrOneUptoRow : OpenClaim := { program := "ytlpalhagndmpjaa", sum := "a9751ac879969fa1971f922593a82ad1dc41131438b7b4787601cf4e4db520a4", func := "sealring/sealringkeep.AttrOne", spec := "attrOne", unfollowed := true, recurses := true, apart := false, narrowed := true }
def AttrOneUptoSaid : Prop := attrOneUptoRow.holds Try.pinned (OpenSpec.upto attrOneSpec)

/-- 'sealringkeep.AttrBack', WHERE WHAT IT READS IS OF BULK AT MOST 1048576: true; the input reads as it did. -/
def attrBackUptoRow : OpenClaim := { program := "ytlpalhagndmpjaa", sum := "a9751ac879969fa1971f922593a82ad1dc41131438b7b4787601cf4e4db520a4", func := "sealring/sealringkeep.AttrBack", spec := "attrBack", unfollowed := true, recurses := true, apart := false, narrowed := true }
def AttrBackUptoSaid : Prop := attrBackUptoRow.holds Try.pinned (OpenSpec.upto attrBackSpec)

/-- 'sealringkeep.RuleSame', WHERE WHAT IT READS IS OF BULK AT MOST 1048576: true; the input reads as it did. -/
def ruleSameUptoRow : OpenClaim := { program := "ytlpalhagndmpjaa", sum := "a9751ac879969fa1971f922593a82ad1dc41131438b7b4787601cf4e4db520a4", func := "sealring/sealringkeep.RuleSame", spec := "ruleSame", unfollowed := true, recurses := true, apart := false, narrowed := true }
def RuleSameUptoSaid : Prop := ruleSameUptoRow.holds Try.pinned (OpenSpec.upto ruleSameSpec)

/-- 'sealringkeep.RuleSticky', WHERE WHAT IT READS IS OF BULK AT MOST 1048576: true; the input reads as it did. -/
def ruleStickyUptoRow : OpenClaim := { program := "ytlpalhagndmpjaa", sum := "a9751ac879969fa1971f922593a82ad1dc41131438b7b4787601cf4e4db520a4", func := "sealring/sealringkeep.RuleSticky", spec := "ruleSticky", unfollowed := true, recurses := true, apart := false, narrowed := true }
def RuleStickyUptoSaid : Prop := ruleStickyUptoRow.holds Try.pinned (OpenSpec.upto ruleStickySpec)

/-- 'sealringkeep.RuleFixed', WHERE WHAT IT READS IS OF BULK AT MOST 1048576: true; the input reads as it did. -/
def ruleFixedUptoRow : OpenClaim := { program := "ytlpalhagndmpjaa", sum := "a9751ac879969fa1971f922593a82ad1dc41131438b7b4787601cf4e4db520a4", func := "sealring/sealringkeep.RuleFixed", spec := "ruleFixed", unfollowed := true, recurses := true, apart := false, narrowed := true }
def RuleFixedUptoSaid : Prop := ruleFixedUptoRow.holds Try.pinned (OpenSpec.upto ruleFixedSpec)

/-- 'sealringkeep.RuleSides', WHERE WHAT IT READS IS OF BULK AT MOST 1048576: true; the input reads as it did. -/
def ruleSidesUptoRow : OpenClaim := { program := "ytlpalhagndmpjaa", sum := "a9751ac879969fa1971f922593a82ad1dc41131438b7b4787601cf4e4db520a4", func := "sealring/sealringkeep.RuleSides", spec := "ruleSides", unfollowed := true, recurses := true, apart := false, narrowed := true }
def RuleSidesUptoSaid : Prop := ruleSidesUptoRow.holds Try.pinned (OpenSpec.upto ruleSidesSpec)

/-- 'sealringkeep.RuleValid', WHERE WHAT IT READS IS OF BULK AT MOST 1048576: true; the input reads as it did. -/
def ruleValidUptoRow : OpenClaim := { program := "ytlpalhagndmpjaa", sum := "a9751ac879969fa1971f922593a82ad1dc41131438b7b4787601cf4e4db520a4", func := "sealring/sealringkeep.RuleValid", spec := "ruleValid", unfollowed := true, recurses := true, apart := false, narrowed := true }
def RuleValidUptoSaid : Prop := ruleValidUptoRow.holds Try.pinned (OpenSpec.upto ruleValidSpec)

end Rows
end Go.Proofs.Ytlpalhagndmpjaa
