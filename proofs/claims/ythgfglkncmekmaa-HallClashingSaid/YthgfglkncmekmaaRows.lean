/-
  No cell of these rows narrows 'for every input' (looked for: loops, veiled, ifaces, maps, wideKeys, modest, calm, conditions, laid).
  DERIVED. THE GIVEN ROWS OF THIS SEAT. 6 by the template 'for every input the law returns true; each argument reads behind the call as it read before'; 0 by the template 'total and deterministic' (their statements: YthgfglkncmekmaaTotals.lean).
  GIVEN WITH THE SEED: the statements are not yours to turn. If you find one false, say at which input.
  Laid BY PROGRAM, IN A SANDBOX (cutbox-rows.mjs): the forced cells as the released guide's own fill.sh prints them over the translation d360b9af8d6a02da… (all of the seat's roots in one cut). By AI agents, Wed Nov 11 2026. No macro, syntax, notation, axiom, sorry.
-/
import Derived.Test.YthgfglkncmekmaaChecked
import GoSem.Claim
import GoSem.ClaimJoined
import GoSem.ClaimMapViews
import Derived.JoinedTies
import Derived.KernelRfl
namespace Go.Proofs.Ythgfglkncmekmaa
/- THE CELL 'sum', in the pinned program and in every row, IS THE sha256 OF THE DUMP (.gsa) THAT YthgfglkncmekmaaProg.lean LOADS. Nothing in Lean hashes anything: it is a label: what it is worth is what the hold of that sum in a sandbox is worth. -/
noncomputable def Try.pinned : Pinned := { name := "ythgfglkncmekmaa", sum := "d360b9af8d6a02dab05c05b557a5d76c4e19cf472149c25176a6909fd084d6ea", checked := Try.checked }
namespace Rows
def none {H : Type} : Left H := { results := [], args := [] }

/-- 'sealringkeep.MacSame': WHATEVER THE INPUT: true; the input reads as it did. -/
def macSameSpec : ChangeSpec := { name := "macSame", fn := fun _ => fun
  | [d1, d2] => { results := [.lit (.bool true)], args := [d1, d2] }
  | _ => none }
def macSameRow : OpenClaim := { program := "ythgfglkncmekmaa", sum := "d360b9af8d6a02dab05c05b557a5d76c4e19cf472149c25176a6909fd084d6ea", func := "sealring/sealringkeep.MacSame", spec := "macSame", apart := false }
def MacSameSaid : Prop := macSameRow.holds Try.pinned (OpenSpec.ofChange macSameSpec)

/-- ITS FALSE NEIGHBOUR: 'it returns false'. Refute it at one input. -/
def macSameWrong : ChangeSpec := { name := "macSame", fn := fun _ => fun
  | [d1, d2] => { results := [.lit (.bool false)], args := [d1, d2] }
  | _ => none }
def MacSameWrongFalsely : Prop := macSameRow.holds Try.pinned (OpenSpec.ofChange macSameWrong)

/-- 'sealringkeep.HashPads': WHATEVER THE INPUT: true; the input reads as it did. -/
def hashPadsSpec : ChangeSpec := { name := "hashPads", fn := fun _ => fun
  | [d1, d2] => { results := [.lit (.bool true)], args := [d1, d2] }
  | _ => none }
def hashPadsRow : OpenClaim := { program := "ythgfglkncmekmaa", sum := "d360b9af8d6a02dab05c05b557a5d76c4e19cf472149c25176a6909fd084d6ea", func := "sealring/sealringkeep.HashPads", spec := "hashPads", apart := false }
def HashPadsSaid : Prop := hashPadsRow.holds Try.pinned (OpenSpec.ofChange hashPadsSpec)

/-- ITS FALSE NEIGHBOUR: 'it returns false'. Refute it at one input. -/
def hashPadsWrong : ChangeSpec := { name := "hashPads", fn := fun _ => fun
  | [d1, d2] => { results := [.lit (.bool false)], args := [d1, d2] }
  | _ => none }
def HashPadsWrongFalsely : Prop := hashPadsRow.holds Try.pinned (OpenSpec.ofChange hashPadsWrong)

/-- 'sealringkeep.HallClashing': WHATEVER THE INPUT: true; the input reads as it did. -/
def hallClashingSpec : ChangeSpec := { name := "hallClashing", fn := fun _ => fun
  | [d1, d2] => { results := [.lit (.bool true)], args := [d1, d2] }
  | _ => none }
def hallClashingRow : OpenClaim := { program := "ythgfglkncmekmaa", sum := "d360b9af8d6a02dab05c05b557a5d76c4e19cf472149c25176a6909fd084d6ea", func := "sealring/sealringkeep.HallClashing", spec := "hallClashing", unfollowed := true, recurses := true, apart := false }
def HallClashingSaid : Prop := hallClashingRow.holds Try.pinned (OpenSpec.ofChange hallClashingSpec)

/-- ITS FALSE NEIGHBOUR: 'it returns false'. Refute it at one input. -/
def hallClashingWrong : ChangeSpec := { name := "hallClashing", fn := fun _ => fun
  | [d1, d2] => { results := [.lit (.bool false)], args := [d1, d2] }
  | _ => none }
def HallClashingWrongFalsely : Prop := hallClashingRow.holds Try.pinned (OpenSpec.ofChange hallClashingWrong)

/-- 'sealringkeep.GfPowers': WHATEVER THE INPUT: true; the input reads as it did. -/
def gfPowersSpec : ChangeSpec := { name := "gfPowers", fn := fun _ => fun
  | [d1, d2, d3] => { results := [.lit (.bool true)], args := [d1, d2, d3] }
  | _ => none }
def gfPowersRow : OpenClaim := { program := "ythgfglkncmekmaa", sum := "d360b9af8d6a02dab05c05b557a5d76c4e19cf472149c25176a6909fd084d6ea", func := "sealring/sealringkeep.GfPowers", spec := "gfPowers", apart := false }
def GfPowersSaid : Prop := gfPowersRow.holds Try.pinned (OpenSpec.ofChange gfPowersSpec)

/-- ITS FALSE NEIGHBOUR: 'it returns false'. Refute it at one input. -/
def gfPowersWrong : ChangeSpec := { name := "gfPowers", fn := fun _ => fun
  | [d1, d2, d3] => { results := [.lit (.bool false)], args := [d1, d2, d3] }
  | _ => none }
def GfPowersWrongFalsely : Prop := gfPowersRow.holds Try.pinned (OpenSpec.ofChange gfPowersWrong)

/-- 'sealringkeep.GfFrobenius': WHATEVER THE INPUT: true; the input reads as it did. -/
def gfFrobeniusSpec : ChangeSpec := { name := "gfFrobenius", fn := fun _ => fun
  | [d1, d2] => { results := [.lit (.bool true)], args := [d1, d2] }
  | _ => none }
def gfFrobeniusRow : OpenClaim := { program := "ythgfglkncmekmaa", sum := "d360b9af8d6a02dab05c05b557a5d76c4e19cf472149c25176a6909fd084d6ea", func := "sealring/sealringkeep.GfFrobenius", spec := "gfFrobenius", apart := false }
def GfFrobeniusSaid : Prop := gfFrobeniusRow.holds Try.pinned (OpenSpec.ofChange gfFrobeniusSpec)

/-- ITS FALSE NEIGHBOUR: 'it returns false'. Refute it at one input. -/
def gfFrobeniusWrong : ChangeSpec := { name := "gfFrobenius", fn := fun _ => fun
  | [d1, d2] => { results := [.lit (.bool false)], args := [d1, d2] }
  | _ => none }
def GfFrobeniusWrongFalsely : Prop := gfFrobeniusRow.holds Try.pinned (OpenSpec.ofChange gfFrobeniusWrong)

/-- 'sealringkeep.GfField': WHATEVER THE INPUT: true; the input reads as it did. -/
def gfFieldSpec : ChangeSpec := { name := "gfField", fn := fun _ => fun
  | [d1, d2, d3] => { results := [.lit (.bool true)], args := [d1, d2, d3] }
  | _ => none }
def gfFieldRow : OpenClaim := { program := "ythgfglkncmekmaa", sum := "d360b9af8d6a02dab05c05b557a5d76c4e19cf472149c25176a6909fd084d6ea", func := "sealring/sealringkeep.GfField", spec := "gfField", apart := false }
def GfFieldSaid : Prop := gfFieldRow.holds Try.pinned (OpenSpec.ofChange gfFieldSpec)

/-- ITS FALSE NEIGHBOUR: 'it returns false'. Refute it at one input. -/
def gfFieldWrong : ChangeSpec := { name := "gfField", fn := fun _ => fun
  | [d1, d2, d3] => { results := [.lit (.bool false)], args := [d1, d2, d3] }
  | _ => none }
def GfFieldWrongFalsely : Prop := gfFieldRow.holds Try.pinned (OpenSpec.ofChange gfFieldWrong)

/- THE SECOND FORM. 'bulk': how many values and letters a reading holds, each counted each time it is reached (what is shared counts as often as it is met; a slice's spare places count too). A statement '..UptoSaid' is the law's where the arguments, and the package variables that the reading takes, are together of bulk at most 1048576: NARROWER than '..Said'. Prove '..Said' where nothing that the law and all that it calls make is longer than what came in: it says more and counts as full. Else prove '..UptoSaid'. A law counts once. -/
mutual
def uptoBulk {H : Type} : DataW H → Nat
  | .lit (.string bytes) => bytes.length + 1
  | .lit _ => 1
  | .nil => 1
  | .ptr d => uptoBulk d + 1
  | .slice elems spare => uptoBulkAll elems + uptoBulkAll spare + 1
  | .agg parts => uptoBulkAll parts + 1
  | .iface _ d => uptoBulk d + 1
  | .map entries => uptoBulkEntries entries + 1
  | .held _ => 1
def uptoBulkAll {H : Type} : List (DataW H) → Nat
  | [] => 0
  | d :: r => uptoBulk d + uptoBulkAll r
def uptoBulkEntries {H : Type} : List (Lit × DataW H) → Nat
  | [] => 0
  | x :: r => uptoBulkEntry x + uptoBulkEntries r
def uptoBulkEntry {H : Type} : Lit × DataW H → Nat
  | (.string bytes, d) => bytes.length + uptoBulk d + 1
  | (_, d) => uptoBulk d + 1
 end
def uptoSmall : (H : Type) → List (DataW H) → Bool := fun _ ds => decide (uptoBulkAll ds ≤ 1048576)
def OpenSpec.upto (s : _root_.Go.ChangeSpec) : _root_.Go.OpenSpec := { _root_.Go.OpenSpec.ofChange s with cond := some uptoSmall }

/-- 'sealringkeep.MacSame', WHERE WHAT IT READS IS OF BULK AT MOST 1048576: true; the input reads as it did. -/
def macSameUptoRow : OpenClaim := { program := "ythgfglkncmekmaa", sum := "d360b9af8d6a02dab05c05b557a5d76c4e19cf472149c25176a6909fd084d6ea", func := "sealring/sealringkeep.MacSame", spec := "macSame", apart := false, narrowed := true }
def MacSameUptoSaid : Prop := macSameUptoRow.holds Try.pinned (OpenSpec.upto macSameSpec)

/-- 'sealringkeep.HashPads', WHERE WHAT IT READS IS OF BULK AT MOST 1048576: true; the input reads as it did. -/
def hashPadsUptoRow : OpenClaim := { program := "ythgfglkncmekmaa", sum := "d360b9af8d6a02dab05c05b557a5d76c4e19cf472149c25176a6909fd084d6ea", func := "sealring/sealringkeep.HashPads", spec := "hashPads", apart := false, narrowed := true }
def HashPadsUptoSaid : Prop := hashPadsUptoRow.holds Try.pinned (OpenSpec.upto hashPadsSpec)

/-- 'sealringkeep.HallClashing', WHERE WHAT IT READS IS OF BULK AT MOST 1048576: true; the input reads as it did. -/
def hallClashingUptoRow : OpenClaim := { program := "ythgfglkncmekmaa", sum := "d360b9af8d6a02dab05c05b557a5d76c4e19cf472149c25176a6909fd084d6ea", func := "sealring/sealringkeep.HallClashing", spec := "hallClashing", unfollowed := true, recurses := true, apart := false, narrowed := true }
def HallClashingUptoSaid : Prop := hallClashingUptoRow.holds Try.pinned (OpenSpec.upto hallClashingSpec)

/-- 'sealringkeep.GfPowers', WHERE WHAT IT READS IS OF BULK AT MOST 1048576: true; the input reads as it did. -/
def gfPowersUptoRow : OpenClaim := { program := "ythgfglkncmekmaa", sum := "d360b9af8d6a02dab05c05b557a5d76c4e19cf472149c25176a6909fd084d6ea", func := "sealring/sealringkeep.GfPowers", spec := "gfPowers", apart := false, narrowed := true }
def GfPowersUptoSaid : Prop := gfPowersUptoRow.holds Try.pinned (OpenSpec.upto gfPowersSpec)

/-- 'sealringkeep.GfFrobenius', WHERE WHAT IT READS IS OF BULK AT MOST 1048576: true; the input reads as it did. -/
def gfFrobeniusUptoRow : OpenClaim := { program := "ythgfglkncmekmaa", sum := "d360b9af8d6a02dab05c05b557a5d76c4e19cf472149c25176a6909fd084d6ea", func := "sealring/sealringkeep.GfFrobenius", spec := "gfFrobenius", apart := false, narrowed := true }
def GfFrobeniusUptoSaid : Prop := gfFrobeniusUptoRow.holds Try.pinned (OpenSpec.upto gfFrobeniusSpec)

/-- 'sealringkeep.GfField', WHERE WHAT IT READS IS OF BULK AT MOST 1048576: true; the input reads as it did. -/
def gfFieldUptoRow : OpenClaim := { program := "ythgfglkncmekmaa", sum := "d360b9af8d6a02dab05c05b557a5d76c4e19cf472149c25176a6909fd084d6ea", func := "sealring/sealringkeep.GfField", spec := "gfField", apart := false, narrowed := true }
def GfFieldUptoSaid : Prop := gfFieldUptoRow.holds Try.pinned (OpenSpec.upto gfFieldSpec)

end Rows
end Go.Proofs.Ythgfglkncmekmaa
