/-
  No cell of these rows narrows 'for every input' (looked for: loops, veiled, ifaces, maps, wideKeys, modest, calm, conditions, laid).
  DERIVED. THE GIVEN ROWS OF THIS SEAT. 6 by the template 'for every input the law returns true; each argument reads behind the call as it read before'; 0 by the template 'total and deterministic' (their statements: YthgfglkncmekmabTotals.lean).
  GIVEN WITH THE SEED: the statements are not yours to turn. If you find one false, say at which input.
  Laid BY PROGRAM, IN A SANDBOX (cutbox-rows.mjs): the forced cells as the released guide's own fill.sh prints them over the translation db1f4d1f63ecce9a… (all of the seat's roots in one cut). By AI agents, Wed Nov 11 2026. No macro, syntax, notation, axiom, sorry.
-/
import Derived.Test.YthgfglkncmekmabChecked
import GoSem.Claim
import GoSem.ClaimJoined
import GoSem.ClaimMapViews
import Derived.JoinedTies
import Derived.KernelRfl
namespace Go.Proofs.Ythgfglkncmekmab
/- THE CELL 'sum', in the pinned program and in every row, IS THE sha256 OF THE DUMP (.gsa) THAT YthgfglkncmekmabProg.lean LOADS. Nothing in Lean hashes anything: it is a label: what it is worth is what the hold of that sum in a sandbox is worth. -/
noncomputable def Try.pinned : Pinned := { name := "ythgfglkncmekmab", sum := "db1f4d1f63ecce9a24547d822b310d02225c090d4c9cbfb57d03ef7de749c398", checked := Try.checked }
namespace Rows
def none {H : Type} : Left H := { results := [], args := [] }

/-- 'sealringkeep.GfMix': WHATEVER THE INPUT: true; the input reads as it did. -/
def gfMixSpec : ChangeSpec := { name := "gfMix", fn := fun _ => fun
  | [d1, d2] => { results := [.lit (.bool true)], args := [d1, d2] }
  | _ => none }
def gfMixRow : OpenClaim := { program := "ythgfglkncmekmab", sum := "db1f4d1f63ecce9a24547d822b310d02225c090d4c9cbfb57d03ef7de749c398", func := "sealring/sealringkeep.GfMix", spec := "gfMix", apart := false }
def GfMixSaid : Prop := gfMixRow.holds Try.pinned (OpenSpec.ofChange gfMixSpec)

/-- ITS FALSE NEIGHBOUR: 'it returns false'. Refute it at one input. -/
def gfMixWrong : ChangeSpec := { name := "gfMix", fn := fun _ => fun
  | [d1, d2] => { results := [.lit (.bool false)], args := [d1, d2] }
  | _ => none }
def GfMixWrongFalsely : Prop := gfMixRow.holds Try.pinned (OpenSpec.ofChange gfMixWrong)

/-- 'sealringkeep.AttrMatch': WHATEVER THE INPUT: true; the input reads as it did. -/
def attrMatchSpec : ChangeSpec := { name := "attrMatch", fn := fun _ => fun
  | [d1, d2, d3] => { results := [.lit (.bool true)], args := [d1, d2, d3] }
  | _ => none }
def attrMatchRow : OpenClaim := { program := "ythgfglkncmekmab", sum := "db1f4d1f63ecce9a24547d822b310d02225c090d4c9cbfb57d03ef7de749c398", func := "sealring/sealringkeep.AttrMatch", spec := "attrMatch", unfollowed := true, recurses := true, apart := false }
def AttrMatchSaid : Prop := attrMatchRow.holds Try.pinned (OpenSpec.ofChange attrMatchSpec)

/-- ITS FALSE NEIGHBOUR: 'it returns false'. Refute it at one input. -/
def attrMatchWrong : ChangeSpec := { name := "attrMatch", fn := fun _ => fun
  | [d1, d2, d3] => { results := [.lit (.bool false)], args := [d1, d2, d3] }
  | _ => none }
def AttrMatchWrongFalsely : Prop := attrMatchRow.holds Try.pinned (OpenSpec.ofChange attrMatchWrong)

/-- 'sealringkeep.DerJoins': WHATEVER THE INPUT: true; the input reads as it did. -/
def derJoinsSpec : ChangeSpec := { name := "derJoins", fn := fun _ => fun
  | [d1, d2] => { results := [.lit (.bool true)], args := [d1, d2] }
  | _ => none }
def derJoinsRow : OpenClaim := { program := "ythgfglkncmekmab", sum := "db1f4d1f63ecce9a24547d822b310d02225c090d4c9cbfb57d03ef7de749c398", func := "sealring/sealringkeep.DerJoins", spec := "derJoins", apart := false }
def DerJoinsSaid : Prop := derJoinsRow.holds Try.pinned (OpenSpec.ofChange derJoinsSpec)

/-- ITS FALSE NEIGHBOUR: 'it returns false'. Refute it at one input. -/
def derJoinsWrong : ChangeSpec := { name := "derJoins", fn := fun _ => fun
  | [d1, d2] => { results := [.lit (.bool false)], args := [d1, d2] }
  | _ => none }
def DerJoinsWrongFalsely : Prop := derJoinsRow.holds Try.pinned (OpenSpec.ofChange derJoinsWrong)

/-- 'sealringkeep.LimbBack': WHATEVER THE INPUT: true; the input reads as it did. -/
def limbBackSpec : ChangeSpec := { name := "limbBack", fn := fun _ => fun
  | [d1, d2] => { results := [.lit (.bool true)], args := [d1, d2] }
  | _ => none }
def limbBackRow : OpenClaim := { program := "ythgfglkncmekmab", sum := "db1f4d1f63ecce9a24547d822b310d02225c090d4c9cbfb57d03ef7de749c398", func := "sealring/sealringkeep.LimbBack", spec := "limbBack", inPlace := ["math/bits.Add64", "math/bits.Sub64"], apart := false }
def LimbBackSaid : Prop := limbBackRow.holds Try.pinned (OpenSpec.ofChange limbBackSpec)

/-- ITS FALSE NEIGHBOUR: 'it returns false'. Refute it at one input. -/
def limbBackWrong : ChangeSpec := { name := "limbBack", fn := fun _ => fun
  | [d1, d2] => { results := [.lit (.bool false)], args := [d1, d2] }
  | _ => none }
def LimbBackWrongFalsely : Prop := limbBackRow.holds Try.pinned (OpenSpec.ofChange limbBackWrong)

/-- 'sealringkeep.DerFront': WHATEVER THE INPUT: true; the input reads as it did. -/
def derFrontSpec : ChangeSpec := { name := "derFront", fn := fun _ => fun
  | [d1, d2] => { results := [.lit (.bool true)], args := [d1, d2] }
  | _ => none }
def derFrontRow : OpenClaim := { program := "ythgfglkncmekmab", sum := "db1f4d1f63ecce9a24547d822b310d02225c090d4c9cbfb57d03ef7de749c398", func := "sealring/sealringkeep.DerFront", spec := "derFront", apart := false }
def DerFrontSaid : Prop := derFrontRow.holds Try.pinned (OpenSpec.ofChange derFrontSpec)

/-- ITS FALSE NEIGHBOUR: 'it returns false'. Refute it at one input. -/
def derFrontWrong : ChangeSpec := { name := "derFront", fn := fun _ => fun
  | [d1, d2] => { results := [.lit (.bool false)], args := [d1, d2] }
  | _ => none }
def DerFrontWrongFalsely : Prop := derFrontRow.holds Try.pinned (OpenSpec.ofChange derFrontWrong)

/-- 'sealringkeep.LimbBytes': WHATEVER THE INPUT: true; the input reads as it did. -/
def limbBytesSpec : ChangeSpec := { name := "limbBytes", fn := fun _ => fun
  | [d1, d2, d3, d4, d5] => { results := [.lit (.bool true)], args := [d1, d2, d3, d4, d5] }
  | _ => none }
def limbBytesRow : OpenClaim := { program := "ythgfglkncmekmab", sum := "db1f4d1f63ecce9a24547d822b310d02225c090d4c9cbfb57d03ef7de749c398", func := "sealring/sealringkeep.LimbBytes", spec := "limbBytes", apart := false }
def LimbBytesSaid : Prop := limbBytesRow.holds Try.pinned (OpenSpec.ofChange limbBytesSpec)

/-- ITS FALSE NEIGHBOUR: 'it returns false'. Refute it at one input. -/
def limbBytesWrong : ChangeSpec := { name := "limbBytes", fn := fun _ => fun
  | [d1, d2, d3, d4, d5] => { results := [.lit (.bool false)], args := [d1, d2, d3, d4, d5] }
  | _ => none }
def LimbBytesWrongFalsely : Prop := limbBytesRow.holds Try.pinned (OpenSpec.ofChange limbBytesWrong)

/- THE SECOND FORM. 'bulk': how many values and letters a reading holds, each counted each time it is reached (what is shared counts as often as it is met; a slice's spare places count too). A statement '..UptoSaid' is the law's where the arguments, and the package variables that the reading takes, are together of bulk at most 1048576: NARROWER than '..Said'. Prove '..Said' where nothing that the law and all that it calls make is longer than what came in: it says more and counts as full. Else prove '..UptoSaid'. A law counts once. -/
mutual
def uptoBulk {H : Type} : DataW H → Nat
  | .lit (.string bytes) => bytes.length + 1
  | .lit _ => 1
  | .nil => 1
  | .ptr d => uptoBulk d + 1
  | .slice elems spare => uptoBulkAll elems + uptoBulkAll spare + 1
  | .agg parts => uptoBulkAll parts + 1
  | .iface _ d => uptoBulk d + 1
  | .map entries => uptoBulkEntries entries + 1
  | .held _ => 1
def uptoBulkAll {H : Type} : List (DataW H) → Nat
  | [] => 0
  | d :: r => uptoBulk d + uptoBulkAll r
def uptoBulkEntries {H : Type} : List (Lit × DataW H) → Nat
  | [] => 0
  | x :: r => uptoBulkEntry x + uptoBulkEntries r
def uptoBulkEntry {H : Type} : Lit × DataW H → Nat
  | (.string bytes, d) => bytes.length + uptoBulk d + 1
  | (_, d) => uptoBulk d + 1
 end
def uptoSmall : (H : Type) → List (DataW H) → Bool := fun _ ds => decide (uptoBulkAll ds ≤ 1048576)
def OpenSpec.upto (s : _root_.Go.ChangeSpec) : _root_.Go.OpenSpec := { _root_.Go.OpenSpec.ofChange s with cond := some uptoSmall }

/-- 'sealringkeep.GfMix', WHERE WHAT IT READS IS OF BULK AT MOST 1048576: true; the input reads as it did. -/
def gfMixUptoRow : OpenClaim := { program := "ythgfglkncmekmab", sum := "db1f4d1f63ecce9a24547d822b310d02225c090d4c9cbfb57d03ef7de749c398", func := "sealring/sealringkeep.GfMix", spec := "gfMix", apart := false, narrowed := true }
def GfMixUptoSaid : Prop := gfMixUptoRow.holds Try.pinned (OpenSpec.upto gfMixSpec)

/-- 'sealringkeep.AttrMatch', WHERE WHAT IT READS IS OF BULK AT MOST 1048576: true; the input reads as it did. -/
def attrMatchUptoRow : OpenClaim := { program := "ythgfglkncmekmab", sum := "db1f4d1f63ecce9a24547d822b310d02225c090d4c9cbfb57d03ef7de749c398", func := "sealring/sealringkeep.AttrMatch", spec := "attrMatch", unfollowed := true, recurses := true, apart := false, narrowed := true }
def AttrMatchUptoSaid : Prop := attrMatchUptoRow.holds Try.pinned (OpenSpec.upto attrMatchSpec)

/-- 'sealringkeep.DerJoins', WHERE WHAT IT READS IS OF BULK AT MOST 1048576: true; the input reads as it did. -/
def derJoinsUptoRow : OpenClaim := { program := "ythgfglkncmekmab", sum := "db1f4d1f63ecce9a24547d822b310d02225c090d4c9cbfb57d03ef7de749c398", func := "sealring/sealringkeep.DerJoins", spec := "derJoins", apart := false, narrowed := true }
def DerJoinsUptoSaid : Prop := derJoinsUptoRow.holds Try.pinned (OpenSpec.upto derJoinsSpec)

/-- 'sealringkeep.LimbBack', WHERE WHAT IT READS IS OF BULK AT MOST 1048576: true; the input reads as it did. -/
def limbBackUptoRow : OpenClaim := { program := "ythgfglkncmekmab", sum := "db1f4d1f63ecce9a24547d822b310d02225c090d4c9cbfb57d03ef7de749c398", func := "sealring/sealringkeep.LimbBack", spec := "limbBack", inPlace := ["math/bits.Add64", "math/bits.Sub64"], apart := false, narrowed := true }
def LimbBackUptoSaid : Prop := limbBackUptoRow.holds Try.pinned (OpenSpec.upto limbBackSpec)

/-- 'sealringkeep.DerFront', WHERE WHAT IT READS IS OF BULK AT MOST 1048576: true; the input reads as it did. -/
def derFrontUptoRow : OpenClaim := { program := "ythgfglkncmekmab", sum := "db1f4d1f63ecce9a24547d822b310d02225c090d4c9cbfb57d03ef7de749c398", func := "sealring/sealringkeep.DerFront", spec := "derFront", apart := false, narrowed := true }
def DerFrontUptoSaid : Prop := derFrontUptoRow.holds Try.pinned (OpenSpec.upto derFrontSpec)

/-- 'sealringkeep.LimbBytes', WHERE WHAT IT READS IS OF BULK AT MOST 1048576: true; the input reads as it did. -/
def limbBytesUptoRow : OpenClaim := { program := "ythgfglkncmekmab", sum := "db1f4d1f63ecce9a24547d822b310d02225c090d4c9cbfb57d03ef7de749c398", func := "sealring/sealringkeep.LimbBytes", spec := "limbBytes", apart := false, narrowed := true }
def LimbBytesUptoSaid : Prop := limbBytesUptoRow.holds Try.pinned (OpenSpec.upto limbBytesSpec)

end Rows
end Go.Proofs.Ythgfglkncmekmab
