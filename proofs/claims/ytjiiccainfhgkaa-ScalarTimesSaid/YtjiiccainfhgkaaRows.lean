/-
  No cell of these rows narrows 'for every input' (looked for: loops, veiled, ifaces, maps, wideKeys, modest, calm, conditions, laid).
  DERIVED. THE GIVEN ROWS OF THIS SEAT. 14 by the template 'for every input the law returns true; each argument reads behind the call as it read before'; 0 by the template 'total and deterministic' (their statements: YtjiiccainfhgkaaTotals.lean).
  GIVEN WITH THE SEED: the statements are not yours to turn. If you find one false, say at which input.
  Laid BY PROGRAM, IN A SANDBOX (cutbox-rows.mjs): the forced cells as the released guide's own fill.sh prints them over the translation 33b68ae5c06471c2… (all of the seat's roots in one cut). By AI agents, Wed Nov 11 2026. No macro, syntax, notation, axiom, sorry.
-/
import Derived.Test.YtjiiccainfhgkaaChecked
import GoSem.Claim
import GoSem.ClaimJoined
import GoSem.ClaimMapViews
import Derived.JoinedTies
import Derived.KernelRfl
namespace Go.Proofs.Ytjiiccainfhgkaa
/- THE CELL 'sum', in the pinned program and in every row, IS THE sha256 OF THE DUMP (.gsa) THAT YtjiiccainfhgkaaProg.lean LOADS. Nothing in Lean hashes anything: it is a label: what it is worth is what the hold of that sum in a sandbox is worth. -/
noncomputable def Try.pinned : Pinned := { name := "ytjiiccainfhgkaa", sum := "33b68ae5c06471c265d7b0dfac5e4e41cfc73123c42d62e2676212261e420020", checked := Try.checked }
namespace Rows
def none {H : Type} : Left H := { results := [], args := [] }

/-- 'sealringkeep.ScalarLaws': WHATEVER THE INPUT: true; the input reads as it did. -/
def scalarLawsSpec : ChangeSpec := { name := "scalarLaws", fn := fun _ => fun
  | [d1, d2, d3] => { results := [.lit (.bool true)], args := [d1, d2, d3] }
  | _ => none }
def scalarLawsRow : OpenClaim := { program := "ytjiiccainfhgkaa", sum := "33b68ae5c06471c265d7b0dfac5e4e41cfc73123c42d62e2676212261e420020", func := "sealring/sealringkeep.ScalarLaws", spec := "scalarLaws", inPlace := ["math/bits.Sub64", "math/bits.Add64"], apart := false }
def ScalarLawsSaid : Prop := scalarLawsRow.holds Try.pinned (OpenSpec.ofChange scalarLawsSpec)

/-- ITS FALSE NEIGHBOUR: 'it returns false'. Refute it at one input. -/
def scalarLawsWrong : ChangeSpec := { name := "scalarLaws", fn := fun _ => fun
  | [d1, d2, d3] => { results := [.lit (.bool false)], args := [d1, d2, d3] }
  | _ => none }
def ScalarLawsWrongFalsely : Prop := scalarLawsRow.holds Try.pinned (OpenSpec.ofChange scalarLawsWrong)

/-- 'sealringkeep.LadderLow': WHATEVER THE INPUT: true; the input reads as it did. -/
def ladderLowSpec : ChangeSpec := { name := "ladderLow", fn := fun _ => fun
  | [d1, d2] => { results := [.lit (.bool true)], args := [d1, d2] }
  | _ => none }
def ladderLowRow : OpenClaim := { program := "ytjiiccainfhgkaa", sum := "33b68ae5c06471c265d7b0dfac5e4e41cfc73123c42d62e2676212261e420020", func := "sealring/sealringkeep.LadderLow", spec := "ladderLow", inPlace := ["math/bits.Sub64", "math/bits.Add64"], apart := false }
def LadderLowSaid : Prop := ladderLowRow.holds Try.pinned (OpenSpec.ofChange ladderLowSpec)

/-- ITS FALSE NEIGHBOUR: 'it returns false'. Refute it at one input. -/
def ladderLowWrong : ChangeSpec := { name := "ladderLow", fn := fun _ => fun
  | [d1, d2] => { results := [.lit (.bool false)], args := [d1, d2] }
  | _ => none }
def LadderLowWrongFalsely : Prop := ladderLowRow.holds Try.pinned (OpenSpec.ofChange ladderLowWrong)

/-- 'sealringkeep.LadderSwaps': WHATEVER THE INPUT: true; the input reads as it did. -/
def ladderSwapsSpec : ChangeSpec := { name := "ladderSwaps", fn := fun _ => fun
  | [d1, d2, d3] => { results := [.lit (.bool true)], args := [d1, d2, d3] }
  | _ => none }
def ladderSwapsRow : OpenClaim := { program := "ytjiiccainfhgkaa", sum := "33b68ae5c06471c265d7b0dfac5e4e41cfc73123c42d62e2676212261e420020", func := "sealring/sealringkeep.LadderSwaps", spec := "ladderSwaps", inPlace := ["math/bits.Sub64", "math/bits.Add64"], apart := false }
def LadderSwapsSaid : Prop := ladderSwapsRow.holds Try.pinned (OpenSpec.ofChange ladderSwapsSpec)

/-- ITS FALSE NEIGHBOUR: 'it returns false'. Refute it at one input. -/
def ladderSwapsWrong : ChangeSpec := { name := "ladderSwaps", fn := fun _ => fun
  | [d1, d2, d3] => { results := [.lit (.bool false)], args := [d1, d2, d3] }
  | _ => none }
def LadderSwapsWrongFalsely : Prop := ladderSwapsRow.holds Try.pinned (OpenSpec.ofChange ladderSwapsWrong)

/-- 'sealringkeep.LadderNeg': WHATEVER THE INPUT: true; the input reads as it did. -/
def ladderNegSpec : ChangeSpec := { name := "ladderNeg", fn := fun _ => fun
  | [d] => { results := [.lit (.bool true)], args := [d] }
  | _ => none }
def ladderNegRow : OpenClaim := { program := "ytjiiccainfhgkaa", sum := "33b68ae5c06471c265d7b0dfac5e4e41cfc73123c42d62e2676212261e420020", func := "sealring/sealringkeep.LadderNeg", spec := "ladderNeg", inPlace := ["math/bits.Sub64", "math/bits.Add64"], apart := false }
def LadderNegSaid : Prop := ladderNegRow.holds Try.pinned (OpenSpec.ofChange ladderNegSpec)

/-- ITS FALSE NEIGHBOUR: 'it returns false'. Refute it at one input. -/
def ladderNegWrong : ChangeSpec := { name := "ladderNeg", fn := fun _ => fun
  | [d] => { results := [.lit (.bool false)], args := [d] }
  | _ => none }
def LadderNegWrongFalsely : Prop := ladderNegRow.holds Try.pinned (OpenSpec.ofChange ladderNegWrong)

/-- 'sealringkeep.AgreeBoth': WHATEVER THE INPUT: true; the input reads as it did. -/
def agreeBothSpec : ChangeSpec := { name := "agreeBoth", fn := fun _ => fun
  | [d1, d2] => { results := [.lit (.bool true)], args := [d1, d2] }
  | _ => none }
def agreeBothRow : OpenClaim := { program := "ytjiiccainfhgkaa", sum := "33b68ae5c06471c265d7b0dfac5e4e41cfc73123c42d62e2676212261e420020", func := "sealring/sealringkeep.AgreeBoth", spec := "agreeBoth", inPlace := ["math/bits.Sub64", "math/bits.Add64"], apart := false }
def AgreeBothSaid : Prop := agreeBothRow.holds Try.pinned (OpenSpec.ofChange agreeBothSpec)

/-- ITS FALSE NEIGHBOUR: 'it returns false'. Refute it at one input. -/
def agreeBothWrong : ChangeSpec := { name := "agreeBoth", fn := fun _ => fun
  | [d1, d2] => { results := [.lit (.bool false)], args := [d1, d2] }
  | _ => none }
def AgreeBothWrongFalsely : Prop := agreeBothRow.holds Try.pinned (OpenSpec.ofChange agreeBothWrong)

/-- 'sealringkeep.AgreeThree': WHATEVER THE INPUT: true; the input reads as it did. -/
def agreeThreeSpec : ChangeSpec := { name := "agreeThree", fn := fun _ => fun
  | [d1, d2, d3] => { results := [.lit (.bool true)], args := [d1, d2, d3] }
  | _ => none }
def agreeThreeRow : OpenClaim := { program := "ytjiiccainfhgkaa", sum := "33b68ae5c06471c265d7b0dfac5e4e41cfc73123c42d62e2676212261e420020", func := "sealring/sealringkeep.AgreeThree", spec := "agreeThree", inPlace := ["math/bits.Sub64", "math/bits.Add64"], apart := false }
def AgreeThreeSaid : Prop := agreeThreeRow.holds Try.pinned (OpenSpec.ofChange agreeThreeSpec)

/-- ITS FALSE NEIGHBOUR: 'it returns false'. Refute it at one input. -/
def agreeThreeWrong : ChangeSpec := { name := "agreeThree", fn := fun _ => fun
  | [d1, d2, d3] => { results := [.lit (.bool false)], args := [d1, d2, d3] }
  | _ => none }
def AgreeThreeWrongFalsely : Prop := agreeThreeRow.holds Try.pinned (OpenSpec.ofChange agreeThreeWrong)

/-- 'sealringkeep.AgreeClamp': WHATEVER THE INPUT: true; the input reads as it did. -/
def agreeClampSpec : ChangeSpec := { name := "agreeClamp", fn := fun _ => fun
  | [d1, d2] => { results := [.lit (.bool true)], args := [d1, d2] }
  | _ => none }
def agreeClampRow : OpenClaim := { program := "ytjiiccainfhgkaa", sum := "33b68ae5c06471c265d7b0dfac5e4e41cfc73123c42d62e2676212261e420020", func := "sealring/sealringkeep.AgreeClamp", spec := "agreeClamp", inPlace := ["math/bits.Sub64", "math/bits.Add64"], apart := false }
def AgreeClampSaid : Prop := agreeClampRow.holds Try.pinned (OpenSpec.ofChange agreeClampSpec)

/-- ITS FALSE NEIGHBOUR: 'it returns false'. Refute it at one input. -/
def agreeClampWrong : ChangeSpec := { name := "agreeClamp", fn := fun _ => fun
  | [d1, d2] => { results := [.lit (.bool false)], args := [d1, d2] }
  | _ => none }
def AgreeClampWrongFalsely : Prop := agreeClampRow.holds Try.pinned (OpenSpec.ofChange agreeClampWrong)

/-- 'sealringkeep.LadderCurve': WHATEVER THE INPUT: true; the input reads as it did. -/
def ladderCurveSpec : ChangeSpec := { name := "ladderCurve", fn := fun _ => fun
  | [d1, d2] => { results := [.lit (.bool true)], args := [d1, d2] }
  | _ => none }
def ladderCurveRow : OpenClaim := { program := "ytjiiccainfhgkaa", sum := "33b68ae5c06471c265d7b0dfac5e4e41cfc73123c42d62e2676212261e420020", func := "sealring/sealringkeep.LadderCurve", spec := "ladderCurve", inPlace := ["math/bits.Sub64", "math/bits.Add64"], apart := false }
def LadderCurveSaid : Prop := ladderCurveRow.holds Try.pinned (OpenSpec.ofChange ladderCurveSpec)

/-- ITS FALSE NEIGHBOUR: 'it returns false'. Refute it at one input. -/
def ladderCurveWrong : ChangeSpec := { name := "ladderCurve", fn := fun _ => fun
  | [d1, d2] => { results := [.lit (.bool false)], args := [d1, d2] }
  | _ => none }
def LadderCurveWrongFalsely : Prop := ladderCurveRow.holds Try.pinned (OpenSpec.ofChange ladderCurveWrong)

/-- 'sealringkeep.CurveTwins': WHATEVER THE INPUT: true; the input reads as it did. -/
def curveTwinsSpec : ChangeSpec := { name := "curveTwins", fn := fun _ => fun
  | [d] => { results := [.lit (.bool true)], args := [d] }
  | _ => none }
def curveTwinsRow : OpenClaim := { program := "ytjiiccainfhgkaa", sum := "33b68ae5c06471c265d7b0dfac5e4e41cfc73123c42d62e2676212261e420020", func := "sealring/sealringkeep.CurveTwins", spec := "curveTwins", inPlace := ["math/bits.Add64", "math/bits.Sub64"], apart := false }
def CurveTwinsSaid : Prop := curveTwinsRow.holds Try.pinned (OpenSpec.ofChange curveTwinsSpec)

/-- ITS FALSE NEIGHBOUR: 'it returns false'. Refute it at one input. -/
def curveTwinsWrong : ChangeSpec := { name := "curveTwins", fn := fun _ => fun
  | [d] => { results := [.lit (.bool false)], args := [d] }
  | _ => none }
def CurveTwinsWrongFalsely : Prop := curveTwinsRow.holds Try.pinned (OpenSpec.ofChange curveTwinsWrong)

/-- 'sealringkeep.CurveBack': WHATEVER THE INPUT: true; the input reads as it did. -/
def curveBackSpec : ChangeSpec := { name := "curveBack", fn := fun _ => fun
  | [d1, d2] => { results := [.lit (.bool true)], args := [d1, d2] }
  | _ => none }
def curveBackRow : OpenClaim := { program := "ytjiiccainfhgkaa", sum := "33b68ae5c06471c265d7b0dfac5e4e41cfc73123c42d62e2676212261e420020", func := "sealring/sealringkeep.CurveBack", spec := "curveBack", inPlace := ["math/bits.Sub64", "math/bits.Add64"], apart := false }
def CurveBackSaid : Prop := curveBackRow.holds Try.pinned (OpenSpec.ofChange curveBackSpec)

/-- ITS FALSE NEIGHBOUR: 'it returns false'. Refute it at one input. -/
def curveBackWrong : ChangeSpec := { name := "curveBack", fn := fun _ => fun
  | [d1, d2] => { results := [.lit (.bool false)], args := [d1, d2] }
  | _ => none }
def CurveBackWrongFalsely : Prop := curveBackRow.holds Try.pinned (OpenSpec.ofChange curveBackWrong)

/-- 'sealringkeep.CurveOne': WHATEVER THE INPUT: true; the input reads as it did. -/
def curveOneSpec : ChangeSpec := { name := "curveOne", fn := fun _ => fun
  | [d] => { results := [.lit (.bool true)], args := [d] }
  | _ => none }
def curveOneRow : OpenClaim := { program := "ytjiiccainfhgkaa", sum := "33b68ae5c06471c265d7b0dfac5e4e41cfc73123c42d62e2676212261e420020", func := "sealring/sealringkeep.CurveOne", spec := "curveOne", inPlace := ["math/bits.Add64", "math/bits.Sub64"], apart := false }
def CurveOneSaid : Prop := curveOneRow.holds Try.pinned (OpenSpec.ofChange curveOneSpec)

/-- ITS FALSE NEIGHBOUR: 'it returns false'. Refute it at one input. -/
def curveOneWrong : ChangeSpec := { name := "curveOne", fn := fun _ => fun
  | [d] => { results := [.lit (.bool false)], args := [d] }
  | _ => none }
def CurveOneWrongFalsely : Prop := curveOneRow.holds Try.pinned (OpenSpec.ofChange curveOneWrong)

/-- 'sealringkeep.CurveOrder': WHATEVER THE INPUT: true; the input reads as it did. -/
def curveOrderSpec : ChangeSpec := { name := "curveOrder", fn := fun _ => fun
  | [d1, d2] => { results := [.lit (.bool true)], args := [d1, d2] }
  | _ => none }
def curveOrderRow : OpenClaim := { program := "ytjiiccainfhgkaa", sum := "33b68ae5c06471c265d7b0dfac5e4e41cfc73123c42d62e2676212261e420020", func := "sealring/sealringkeep.CurveOrder", spec := "curveOrder", inPlace := ["math/bits.Sub64", "math/bits.Add64"], apart := false }
def CurveOrderSaid : Prop := curveOrderRow.holds Try.pinned (OpenSpec.ofChange curveOrderSpec)

/-- ITS FALSE NEIGHBOUR: 'it returns false'. Refute it at one input. -/
def curveOrderWrong : ChangeSpec := { name := "curveOrder", fn := fun _ => fun
  | [d1, d2] => { results := [.lit (.bool false)], args := [d1, d2] }
  | _ => none }
def CurveOrderWrongFalsely : Prop := curveOrderRow.holds Try.pinned (OpenSpec.ofChange curveOrderWrong)

/-- 'sealringkeep.AgreeSmall': WHATEVER THE INPUT: true; the input reads as it did. -/
def agreeSmallSpec : ChangeSpec := { name := "agreeSmall", fn := fun _ => fun
  | [d1, d2] => { results := [.lit (.bool true)], args := [d1, d2] }
  | _ => none }
def agreeSmallRow : OpenClaim := { program := "ytjiiccainfhgkaa", sum := "33b68ae5c06471c265d7b0dfac5e4e41cfc73123c42d62e2676212261e420020", func := "sealring/sealringkeep.AgreeSmall", spec := "agreeSmall", inPlace := ["math/bits.Sub64", "math/bits.Add64"], apart := false }
def AgreeSmallSaid : Prop := agreeSmallRow.holds Try.pinned (OpenSpec.ofChange agreeSmallSpec)

/-- ITS FALSE NEIGHBOUR: 'it returns false'. Refute it at one input. -/
def agreeSmallWrong : ChangeSpec := { name := "agreeSmall", fn := fun _ => fun
  | [d1, d2] => { results := [.lit (.bool false)], args := [d1, d2] }
  | _ => none }
def AgreeSmallWrongFalsely : Prop := agreeSmallRow.holds Try.pinned (OpenSpec.ofChange agreeSmallWrong)

/-- 'sealringkeep.ScalarTimes': WHATEVER THE INPUT: true; the input reads as it did. -/
def scalarTimesSpec : ChangeSpec := { name := "scalarTimes", fn := fun _ => fun
  | [d1, d2] => { results := [.lit (.bool true)], args := [d1, d2] }
  | _ => none }
def scalarTimesRow : OpenClaim := { program := "ytjiiccainfhgkaa", sum := "33b68ae5c06471c265d7b0dfac5e4e41cfc73123c42d62e2676212261e420020", func := "sealring/sealringkeep.ScalarTimes", spec := "scalarTimes", inPlace := ["math/bits.Sub64", "math/bits.Add64"], apart := false }
def ScalarTimesSaid : Prop := scalarTimesRow.holds Try.pinned (OpenSpec.ofChange scalarTimesSpec)

/-- ITS FALSE NEIGHBOUR: 'it returns false'. Refute it at one input. -/
def scalarTimesWrong : ChangeSpec := { name := "scalarTimes", fn := fun _ => fun
  | [d1, d2] => { results := [.lit (.bool false)], args := [d1, d2] }
  | _ => none }
def ScalarTimesWrongFalsely : Prop := scalarTimesRow.holds Try.pinned (OpenSpec.ofChange scalarTimesWrong)

/- THE SECOND FORM. 'bulk': how many values and letters a reading holds, each counted each time it is reached (what is shared counts as often as it is met; a slice's spare places count too). A statement '..UptoSaid' is the law's where the arguments, and the package variables that the reading takes, are together of bulk at most 1048576: NARROWER than '..Said'. Prove '..Said' where nothing that the law and all that it calls make is longer than what came in: it says more and counts as full. Else prove '..UptoSaid'. A law counts once. -/
mutual
def uptoBulk {H : Type} : DataW H → Nat
  | .lit (.string bytes) => bytes.length + 1
  | .lit _ => 1
  | .nil => 1
  | .ptr d => uptoBulk d + 1
  | .slice elems spare => uptoBulkAll elems + uptoBulkAll spare + 1
  | .agg parts => uptoBulkAll parts + 1
  | .iface _ d => uptoBulk d + 1
  | .map entries => uptoBulkEntries entries + 1
  | .held _ => 1
def uptoBulkAll {H : Type} : List (DataW H) → Nat
  | [] => 0
  | d :: r => uptoBulk d + uptoBulkAll r
def uptoBulkEntries {H : Type} : List (Lit × DataW H) → Nat
  | [] => 0
  | x :: r => uptoBulkEntry x + uptoBulkEntries r
def uptoBulkEntry {H : Type} : Lit × DataW H → Nat
  | (.string bytes, d) => bytes.length + uptoBulk d + 1
  | (_, d) => uptoBulk d + 1
 end
def uptoSmall : (H : Type) → List (DataW H) → Bool := fun _ ds => decide (uptoBulkAll ds ≤ 1048576)
def OpenSpec.upto (s : _root_.Go.ChangeSpec) : _root_.Go.OpenSpec := { _root_.Go.OpenSpec.ofChange s with cond := some uptoSmall }

/-- 'sealringkeep.ScalarLaws', WHERE WHAT IT READS IS OF BULK AT MOST 1048576: true; the input reads as it did. -/
def scalarLawsUptoRow : OpenClaim := { program := "ytjiiccainfhgkaa", sum := "33b68ae5c06471c265d7b0dfac5e4e41cfc73123c42d62e2676212261e420020", func := "sealring/sealringkeep.ScalarLaws", spec := "scalarLaws", inPlace := ["math/bits.Sub64", "math/bits.Add64"], apart := false, narrowed := true }
def ScalarLawsUptoSaid : Prop := scalarLawsUptoRow.holds Try.pinned (OpenSpec.upto scalarLawsSpec)

/-- 'sealringkeep.LadderLow', WHERE WHAT IT READS IS OF BULK AT MOST 1048576: true; the input reads as it did. -/
def ladderLowUptoRow : OpenClaim := { program := "ytjiiccainfhgkaa", sum := "33b68ae5c06471c265d7b0dfac5e4e41cfc73123c42d62e2676212261e420020", func := "sealring/sealringkeep.LadderLow", spec := "ladderLow", inPlace := ["math/bits.Sub64", "math/bits.Add64"], apart := false, narrowed := true }
def LadderLowUptoSaid : Prop := ladderLowUptoRow.holds Try.pinned (OpenSpec.upto ladderLowSpec)

/-- 'sealringkeep.LadderSwaps', WHERE WHAT IT READS IS OF BULK AT MOST 1048576: true; the input reads as it did. -/
def ladderSwapsUptoRow : OpenClaim := { program := "ytjiiccainfhgkaa", sum := "33b68ae5c06471c265d7b0dfac5e4e41cfc73123c42d62e2676212261e420020", func := "sealring/sealringkeep.LadderSwaps", spec := "ladderSwaps", inPlace := ["math/bits.Sub64", "math/bits.Add64"], apart := false, narrowed := true }
def LadderSwapsUptoSaid : Prop := ladderSwapsUptoRow.holds Try.pinned (OpenSpec.upto ladderSwapsSpec)

/-- 'sealringkeep.LadderNeg', WHERE WHAT IT READS IS OF BULK AT MOST 1048576: true; the input reads as it did. -/
def ladderNegUptoRow : OpenClaim := { program := "ytjiiccainfhgkaa", sum := "33b68ae5c06471c265d7b0dfac5e4e41cfc73123c42d62e2676212261e420020", func := "sealring/sealringkeep.LadderNeg", spec := "ladderNeg", inPlace := ["math/bits.Sub64", "math/bits.Add64"], apart := false, narrowed := true }
def LadderNegUptoSaid : Prop := ladderNegUptoRow.holds Try.pinned (OpenSpec.upto ladderNegSpec)

/-- 'sealringkeep.AgreeBoth', WHERE WHAT IT READS IS OF BULK AT MOST 1048576: true; the input reads as it did. -/
def agreeBothUptoRow : OpenClaim := { program := "ytjiiccainfhgkaa", sum := "33b68ae5c06471c265d7b0dfac5e4e41cfc73123c42d62e2676212261e420020", func := "sealring/sealringkeep.AgreeBoth", spec := "agreeBoth", inPlace := ["math/bits.Sub64", "math/bits.Add64"], apart := false, narrowed := true }
def AgreeBothUptoSaid : Prop := agreeBothUptoRow.holds Try.pinned (OpenSpec.upto agreeBothSpec)

/-- 'sealringkeep.AgreeThree', WHERE WHAT IT READS IS OF BULK AT MOST 1048576: true; the input reads as it did. -/
def agreeThreeUptoRow : OpenClaim := { program := "ytjiiccainfhgkaa", sum := "33b68ae5c06471c265d7b0dfac5e4e41cfc73123c42d62e2676212261e420020", func := "sealring/sealringkeep.AgreeThree", spec := "agreeThree", inPlace := ["math/bits.Sub64", "math/bits.Add64"], apart := false, narrowed := true }
def AgreeThreeUptoSaid : Prop := agreeThreeUptoRow.holds Try.pinned (OpenSpec.upto agreeThreeSpec)

/-- 'sealringkeep.AgreeClamp', WHERE WHAT IT READS IS OF BULK AT MOST 1048576: true; the input reads as it did. -/
def agreeClampUptoRow : OpenClaim := { program := "ytjiiccainfhgkaa", sum := "33b68ae5c06471c265d7b0dfac5e4e41cfc73123c42d62e2676212261e420020", func := "sealring/sealringkeep.AgreeClamp", spec := "agreeClamp", inPlace := ["math/bits.Sub64", "math/bits.Add64"], apart := false, narrowed := true }
def AgreeClampUptoSaid : Prop := agreeClampUptoRow.holds Try.pinned (OpenSpec.upto agreeClampSpec)

/-- 'sealringkeep.LadderCurve', WHERE WHAT IT READS IS OF BULK AT MOST 1048576: true; the input reads as it did. -/
def ladderCurveUptoRow : OpenClaim := { program := "ytjiiccainfhgkaa", sum := "33b68ae5c06471c265d7b0dfac5e4e41cfc73123c42d62e2676212261e420020", func := "sealring/sealringkeep.LadderCurve", spec := "ladderCurve", inPlace := ["math/bits.Sub64", "math/bits.Add64"], apart := false, narrowed := true }
def LadderCurveUptoSaid : Prop := ladderCurveUptoRow.holds Try.pinned (OpenSpec.upto ladderCurveSpec)

/-- 'sealringkeep.CurveTwins', WHERE WHAT IT READS IS OF BULK AT MOST 1048576: true; the input reads as it did. -/
def curveTwinsUptoRow : OpenClaim := { program := "ytjiiccainfhgkaa", sum := "33b68ae5c06471c265d7b0dfac5e4e41cfc73123c42d62e2676212261e420020", func := "sealring/sealringkeep.CurveTwins", spec := "curveTwins", inPlace := ["math/bits.Add64", "math/bits.Sub64"], apart := false, narrowed := true }
def CurveTwinsUptoSaid : Prop := curveTwinsUptoRow.holds Try.pinned (OpenSpec.upto curveTwinsSpec)

/-- 'sealringkeep.CurveBack', WHERE WHAT IT READS IS OF BULK AT MOST 1048576: true; the input reads as it did. -/
def curveBackUptoRow : OpenClaim := { program := "ytjiiccainfhgkaa", sum := "33b68ae5c06471c265d7b0dfac5e4e41cfc73123c42d62e2676212261e420020", func := "sealring/sealringkeep.CurveBack", spec := "curveBack", inPlace := ["math/bits.Sub64", "math/bits.Add64"], apart := false, narrowed := true }
def CurveBackUptoSaid : Prop := curveBackUptoRow.holds Try.pinned (OpenSpec.upto curveBackSpec)

/-- 'sealringkeep.CurveOne', WHERE WHAT IT READS IS OF BULK AT MOST 1048576: true; the input reads as it did. -/
def curveOneUptoRow : OpenClaim := { program := "ytjiiccainfhgkaa", sum := "33b68ae5c06471c265d7b0dfac5e4e41cfc73123c42d62e2676212261e420020", func := "sealring/sealringkeep.CurveOne", spec := "curveOne", inPlace := ["math/bits.Add64", "math/bits.Sub64"], apart := false, narrowed := true }
def CurveOneUptoSaid : Prop := curveOneUptoRow.holds Try.pinned (OpenSpec.upto curveOneSpec)

/-- 'sealringkeep.CurveOrder', WHERE WHAT IT READS IS OF BULK AT MOST 1048576: true; the input reads as it did. -/
def curveOrderUptoRow : OpenClaim := { program := "ytjiiccainfhgkaa", sum := "33b68ae5c06471c265d7b0dfac5e4e41cfc73123c42d62e2676212261e420020", func := "sealring/sealringkeep.CurveOrder", spec := "curveOrder", inPlace := ["math/bits.Sub64", "math/bits.Add64"], apart := false, narrowed := true }
def CurveOrderUptoSaid : Prop := curveOrderUptoRow.holds Try.pinned (OpenSpec.upto curveOrderSpec)

/-- 'sealringkeep.AgreeSmall', WHERE WHAT IT READS IS OF BULK AT MOST 1048576: true; the input reads as it did. -/
def agreeSmallUptoRow : OpenClaim := { program := "ytjiiccainfhgkaa", sum := "33b68ae5c06471c265d7b0dfac5e4e41cfc73123c42d62e2676212261e420020", func := "sealring/sealringkeep.AgreeSmall", spec := "agreeSmall", inPlace := ["math/bits.Sub64", "math/bits.Add64"], apart := false, narrowed := true }
def AgreeSmallUptoSaid : Prop := agreeSmallUptoRow.holds Try.pinned (OpenSpec.upto agreeSmallSpec)

/-- 'sealringkeep.ScalarTimes', WHERE WHAT IT READS IS OF BULK AT MOST 1048576: true; the input reads as it did. -/
def scalarTimesUptoRow : OpenClaim := { program := "ytjiiccainfhgkaa", sum := "33b68ae5c06471c265d7b0dfac5e4e41cfc73123c42d62e2676212261e420020", func := "sealring/sealringkeep.ScalarTimes", spec := "scalarTimes", inPlace := ["math/bits.Sub64", "math/bits.Add64"], apart := false, narrowed := true }
def ScalarTimesUptoSaid : Prop := scalarTimesUptoRow.holds Try.pinned (OpenSpec.upto scalarTimesSpec)

end Rows
end Go.Proofs.Ytjiiccainfhgkaa
