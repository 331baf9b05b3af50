/-
  No cell of these rows narrows 'for every input' (looked for: loops, veiled, ifaces, maps, wideKeys, modest, calm, conditions, laid).
  DERIVED. THE GIVEN ROWS OF THIS SEAT. 7 by the template 'for every input the law returns true; each argument reads behind the call as it read before'; 0 by the template 'total and deterministic' (their statements: YtnjjnlhaibpfnaaTotals.lean).
  GIVEN WITH THE SEED: the statements are not yours to turn. If you find one false, say at which input.
  Laid BY PROGRAM, IN A SANDBOX (cutbox-rows.mjs): the forced cells as the released guide's own fill.sh prints them over the translation 265697730447dbd7… (all of the seat's roots in one cut). By AI agents, Wed Nov 11 2026. No macro, syntax, notation, axiom, sorry.
-/
import Derived.Test.YtnjjnlhaibpfnaaChecked
import GoSem.Claim
import GoSem.ClaimJoined
import GoSem.ClaimMapViews
import Derived.JoinedTies
import Derived.KernelRfl
namespace Go.Proofs.Ytnjjnlhaibpfnaa
/- THE CELL 'sum', in the pinned program and in every row, IS THE sha256 OF THE DUMP (.gsa) THAT YtnjjnlhaibpfnaaProg.lean LOADS. Nothing in Lean hashes anything: it is a label: what it is worth is what the hold of that sum in a sandbox is worth. -/
noncomputable def Try.pinned : Pinned := { name := "ytnjjnlhaibpfnaa", sum := "265697730447dbd74a35da0625359d0085f6b3c6837706e54537f4fae83a6ecd", checked := Try.checked }
namespace Rows
def none {H : Type} : Left H := { results := [], args := [] }

/-- 'sealringkeep.QuotGcd': WHATEVER THE INPUT: true; the input reads as it did. -/
def quotGcdSpec : ChangeSpec := { name := "quotGcd", fn := fun _ => fun
  | [d1, d2, d3] => { results := [.lit (.bool true)], args := [d1, d2, d3] }
  | _ => none }
def quotGcdRow : OpenClaim := { program := "ytnjjnlhaibpfnaa", sum := "265697730447dbd74a35da0625359d0085f6b3c6837706e54537f4fae83a6ecd", func := "sealring/sealringkeep.QuotGcd", spec := "quotGcd", inPlace := ["math/bits.Sub64"], apart := false }
def QuotGcdSaid : Prop := quotGcdRow.holds Try.pinned (OpenSpec.ofChange quotGcdSpec)

/-- ITS FALSE NEIGHBOUR: 'it returns false'. Refute it at one input. -/
def quotGcdWrong : ChangeSpec := { name := "quotGcd", fn := fun _ => fun
  | [d1, d2, d3] => { results := [.lit (.bool false)], args := [d1, d2, d3] }
  | _ => none }
def QuotGcdWrongFalsely : Prop := quotGcdRow.holds Try.pinned (OpenSpec.ofChange quotGcdWrong)

/-- 'sealringkeep.QuotBezout': WHATEVER THE INPUT: true; the input reads as it did. -/
def quotBezoutSpec : ChangeSpec := { name := "quotBezout", fn := fun _ => fun
  | [d1, d2] => { results := [.lit (.bool true)], args := [d1, d2] }
  | _ => none }
def quotBezoutRow : OpenClaim := { program := "ytnjjnlhaibpfnaa", sum := "265697730447dbd74a35da0625359d0085f6b3c6837706e54537f4fae83a6ecd", func := "sealring/sealringkeep.QuotBezout", spec := "quotBezout", inPlace := ["math/bits.Sub64", "math/bits.Add64"], apart := false }
def QuotBezoutSaid : Prop := quotBezoutRow.holds Try.pinned (OpenSpec.ofChange quotBezoutSpec)

/-- ITS FALSE NEIGHBOUR: 'it returns false'. Refute it at one input. -/
def quotBezoutWrong : ChangeSpec := { name := "quotBezout", fn := fun _ => fun
  | [d1, d2] => { results := [.lit (.bool false)], args := [d1, d2] }
  | _ => none }
def QuotBezoutWrongFalsely : Prop := quotBezoutRow.holds Try.pinned (OpenSpec.ofChange quotBezoutWrong)

/-- 'sealringkeep.RingOut': WHATEVER THE INPUT: true; the input reads as it did. -/
def ringOutSpec : ChangeSpec := { name := "ringOut", fn := fun _ => fun
  | [d1, d2, d3, d4] => { results := [.lit (.bool true)], args := [d1, d2, d3, d4] }
  | _ => none }
def ringOutRow : OpenClaim := { program := "ytnjjnlhaibpfnaa", sum := "265697730447dbd74a35da0625359d0085f6b3c6837706e54537f4fae83a6ecd", func := "sealring/sealringkeep.RingOut", spec := "ringOut", inPlace := ["math/bits.Sub64", "math/bits.Add64"], apart := false }
def RingOutSaid : Prop := ringOutRow.holds Try.pinned (OpenSpec.ofChange ringOutSpec)

/-- ITS FALSE NEIGHBOUR: 'it returns false'. Refute it at one input. -/
def ringOutWrong : ChangeSpec := { name := "ringOut", fn := fun _ => fun
  | [d1, d2, d3, d4] => { results := [.lit (.bool false)], args := [d1, d2, d3, d4] }
  | _ => none }
def RingOutWrongFalsely : Prop := ringOutRow.holds Try.pinned (OpenSpec.ofChange ringOutWrong)

/-- 'sealringkeep.RingLaws': WHATEVER THE INPUT: true; the input reads as it did. -/
def ringLawsSpec : ChangeSpec := { name := "ringLaws", fn := fun _ => fun
  | [d1, d2, d3, d4] => { results := [.lit (.bool true)], args := [d1, d2, d3, d4] }
  | _ => none }
def ringLawsRow : OpenClaim := { program := "ytnjjnlhaibpfnaa", sum := "265697730447dbd74a35da0625359d0085f6b3c6837706e54537f4fae83a6ecd", func := "sealring/sealringkeep.RingLaws", spec := "ringLaws", inPlace := ["math/bits.Sub64", "math/bits.Add64"], apart := false }
def RingLawsSaid : Prop := ringLawsRow.holds Try.pinned (OpenSpec.ofChange ringLawsSpec)

/-- ITS FALSE NEIGHBOUR: 'it returns false'. Refute it at one input. -/
def ringLawsWrong : ChangeSpec := { name := "ringLaws", fn := fun _ => fun
  | [d1, d2, d3, d4] => { results := [.lit (.bool false)], args := [d1, d2, d3, d4] }
  | _ => none }
def RingLawsWrongFalsely : Prop := ringLawsRow.holds Try.pinned (OpenSpec.ofChange ringLawsWrong)

/-- 'sealringkeep.RingPowers': WHATEVER THE INPUT: true; the input reads as it did. -/
def ringPowersSpec : ChangeSpec := { name := "ringPowers", fn := fun _ => fun
  | [d1, d2, d3, d4] => { results := [.lit (.bool true)], args := [d1, d2, d3, d4] }
  | _ => none }
def ringPowersRow : OpenClaim := { program := "ytnjjnlhaibpfnaa", sum := "265697730447dbd74a35da0625359d0085f6b3c6837706e54537f4fae83a6ecd", func := "sealring/sealringkeep.RingPowers", spec := "ringPowers", inPlace := ["math/bits.Sub64", "math/bits.Add64"], apart := false }
def RingPowersSaid : Prop := ringPowersRow.holds Try.pinned (OpenSpec.ofChange ringPowersSpec)

/-- ITS FALSE NEIGHBOUR: 'it returns false'. Refute it at one input. -/
def ringPowersWrong : ChangeSpec := { name := "ringPowers", fn := fun _ => fun
  | [d1, d2, d3, d4] => { results := [.lit (.bool false)], args := [d1, d2, d3, d4] }
  | _ => none }
def RingPowersWrongFalsely : Prop := ringPowersRow.holds Try.pinned (OpenSpec.ofChange ringPowersWrong)

/-- 'sealringkeep.RingFermat': WHATEVER THE INPUT: true; the input reads as it did. -/
def ringFermatSpec : ChangeSpec := { name := "ringFermat", fn := fun _ => fun
  | [d] => { results := [.lit (.bool true)], args := [d] }
  | _ => none }
def ringFermatRow : OpenClaim := { program := "ytnjjnlhaibpfnaa", sum := "265697730447dbd74a35da0625359d0085f6b3c6837706e54537f4fae83a6ecd", func := "sealring/sealringkeep.RingFermat", spec := "ringFermat", inPlace := ["math/bits.Sub64", "math/bits.Add64"], apart := false }
def RingFermatSaid : Prop := ringFermatRow.holds Try.pinned (OpenSpec.ofChange ringFermatSpec)

/-- ITS FALSE NEIGHBOUR: 'it returns false'. Refute it at one input. -/
def ringFermatWrong : ChangeSpec := { name := "ringFermat", fn := fun _ => fun
  | [d] => { results := [.lit (.bool false)], args := [d] }
  | _ => none }
def RingFermatWrongFalsely : Prop := ringFermatRow.holds Try.pinned (OpenSpec.ofChange ringFermatWrong)

/-- 'sealringkeep.RingPows': WHATEVER THE INPUT: true; the input reads as it did. -/
def ringPowsSpec : ChangeSpec := { name := "ringPows", fn := fun _ => fun
  | [d1, d2, d3, d4, d5] => { results := [.lit (.bool true)], args := [d1, d2, d3, d4, d5] }
  | _ => none }
def ringPowsRow : OpenClaim := { program := "ytnjjnlhaibpfnaa", sum := "265697730447dbd74a35da0625359d0085f6b3c6837706e54537f4fae83a6ecd", func := "sealring/sealringkeep.RingPows", spec := "ringPows", inPlace := ["math/bits.Sub64", "math/bits.Add64"], apart := false }
def RingPowsSaid : Prop := ringPowsRow.holds Try.pinned (OpenSpec.ofChange ringPowsSpec)

/-- ITS FALSE NEIGHBOUR: 'it returns false'. Refute it at one input. -/
def ringPowsWrong : ChangeSpec := { name := "ringPows", fn := fun _ => fun
  | [d1, d2, d3, d4, d5] => { results := [.lit (.bool false)], args := [d1, d2, d3, d4, d5] }
  | _ => none }
def RingPowsWrongFalsely : Prop := ringPowsRow.holds Try.pinned (OpenSpec.ofChange ringPowsWrong)

/- THE SECOND FORM. 'bulk': how many values and letters a reading holds, each counted each time it is reached (what is shared counts as often as it is met; a slice's spare places count too). A statement '..UptoSaid' is the law's where the arguments, and the package variables that the reading takes, are together of bulk at most 1048576: NARROWER than '..Said'. Prove '..Said' where nothing that the law and all that it calls make is longer than what came in: it says more and counts as full. Else prove '..UptoSaid'. A law counts once. -/
mutual
def uptoBulk {H : Type} : DataW H → Nat
  | .lit (.string bytes) => bytes.length + 1
  | .lit _ => 1
  | .nil => 1
  | .ptr d => uptoBulk d + 1
  | .slice elems spare => uptoBulkAll elems + uptoBulkAll spare + 1
  | .agg parts => uptoBulkAll parts + 1
  | .iface _ d => uptoBulk d + 1
  | .map entries => uptoBulkEntries entries + 1
  | .held _ => 1
def uptoBulkAll {H : Type} : List (DataW H) → Nat
  | [] => 0
  | d :: r => uptoBulk d + uptoBulkAll r
def uptoBulkEntries {H : Type} : List (Lit × DataW H) → Nat
  | [] => 0
  | x :: r => uptoBulkEntry x + uptoBulkEntries r
def uptoBulkEntry {H : Type} : Lit × DataW H → Nat
  | (.string bytes, d) => bytes.length + uptoBulk d + 1
  | (_, d) => uptoBulk d + 1
 end
def uptoSmall : (H : Type) → List (DataW H) → Bool := fun _ ds => decide (uptoBulkAll ds ≤ 1048576)
def OpenSpec.upto (s : _root_.Go.ChangeSpec) : _root_.Go.OpenSpec := { _root_.Go.OpenSpec.ofChange s with cond := some uptoSmall }

/-- 'sealringkeep.QuotGcd', WHERE WHAT IT READS IS OF BULK AT MOST 1048576: true; the input reads as it did. -/
def quotGcdUptoRow : OpenClaim := { program := "ytnjjnlhaibpfnaa", sum := "265697730447dbd74a35da0625359d0085f6b3c6837706e54537f4fae83a6ecd", func := "sealring/sealringkeep.QuotGcd", spec := "quotGcd", inPlace := ["math/bits.Sub64"], apart := false, narrowed := true }
def QuotGcdUptoSaid : Prop := quotGcdUptoRow.holds Try.pinned (OpenSpec.upto quotGcdSpec)

/-- 'sealringkeep.QuotBezout', WHERE WHAT IT READS IS OF BULK AT MOST 1048576: true; the input reads as it did. -/
def quotBezoutUptoRow : OpenClaim := { program := "ytnjjnlhaibpfnaa", sum := "265697730447dbd74a35da0625359d0085f6b3c6837706e54537f4fae83a6ecd", func := "sealring/sealringkeep.QuotBezout", spec := "quotBezout", inPlace := ["math/bits.Sub64", "math/bits.Add64"], apart := false, narrowed := true }
def QuotBezoutUptoSaid : Prop := quotBezoutUptoRow.holds Try.pinned (OpenSpec.upto quotBezoutSpec)

/-- 'sealringkeep.RingOut', WHERE WHAT IT READS IS OF BULK AT MOST 1048576: true; the input reads as it did. -/
def ringOutUptoRow : OpenClaim := { program := "ytnjjnlhaibpfnaa", sum := "265697730447dbd74a35da0625359d0085f6b3c6837706e54537f4fae83a6ecd", func := "sealring/sealringkeep.RingOut", spec := "ringOut", inPlace := ["math/bits.Sub64", "math/bits.Add64"], apart := false, narrowed := true }
def RingOutUptoSaid : Prop := ringOutUptoRow.holds Try.pinned (OpenSpec.upto ringOutSpec)

/-- 'sealringkeep.RingLaws', WHERE WHAT IT READS IS OF BULK AT MOST 1048576: true; the input reads as it did. -/
def ringLawsUptoRow : OpenClaim := { program := "ytnjjnlhaibpfnaa", sum := "265697730447dbd74a35da0625359d0085f6b3c6837706e54537f4fae83a6ecd", func := "sealring/sealringkeep.RingLaws", spec := "ringLaws", inPlace := ["math/bits.Sub64", "math/bits.Add64"], apart := false, narrowed := true }
def RingLawsUptoSaid : Prop := ringLawsUptoRow.holds Try.pinned (OpenSpec.upto ringLawsSpec)

/-- 'sealringkeep.RingPowers', WHERE WHAT IT READS IS OF BULK AT MOST 1048576: true; the input reads as it did. -/
def ringPowersUptoRow : OpenClaim := { program := "ytnjjnlhaibpfnaa", sum := "265697730447dbd74a35da0625359d0085f6b3c6837706e54537f4fae83a6ecd", func := "sealring/sealringkeep.RingPowers", spec := "ringPowers", inPlace := ["math/bits.Sub64", "math/bits.Add64"], apart := false, narrowed := true }
def RingPowersUptoSaid : Prop := ringPowersUptoRow.holds Try.pinned (OpenSpec.upto ringPowersSpec)

/-- 'sealringkeep.RingFermat', WHERE WHAT IT READS IS OF BULK AT MOST 1048576: true; the input reads as it did. -/
def ringFermatUptoRow : OpenClaim := { program := "ytnjjnlhaibpfnaa", sum := "265697730447dbd74a35da0625359d0085f6b3c6837706e54537f4fae83a6ecd", func := "sealring/sealringkeep.RingFermat", spec := "ringFermat", inPlace := ["math/bits.Sub64", "math/bits.Add64"], apart := false, narrowed := true }
def RingFermatUptoSaid : Prop := ringFermatUptoRow.holds Try.pinned (OpenSpec.upto ringFermatSpec)

/-- 'sealringkeep.RingPows', WHERE WHAT IT READS IS OF BULK AT MOST 1048576: true; the input reads as it did. -/
def ringPowsUptoRow : OpenClaim := { program := "ytnjjnlhaibpfnaa", sum := "265697730447dbd74a35da0625359d0085f6b3c6837706e54537f4fae83a6ecd", func := "sealring/sealringkeep.RingPows", spec := "ringPows", inPlace := ["math/bits.Sub64", "math/bits.Add64"], apart := false, narrowed := true }
def RingPowsUptoSaid : Prop := ringPowsUptoRow.holds Try.pinned (OpenSpec.upto ringPowsSpec)

end Rows
end Go.Proofs.Ytnjjnlhaibpfnaa
