/-
  NARROWER THAN 'FOR EVERY INPUT', by the rows' own cells (each row's printed sentence says how): SignOnly: laid · SignPairs: laid · SignTrue: laid · SignAgain: laid · SignBatch: laid · SignAlone: laid · ShareSums: laid · ShareFew: laid · ShareMore: laid · ShareAny: laid.
  DERIVED. THE GIVEN ROWS OF THIS SEAT. 10 by the template 'for every input the law returns true; each argument reads behind the call as it read before'; 0 by the template 'total and deterministic' (their statements: YtkbgkobbadjpnaaDoorTotals.lean).
  GIVEN WITH THE SEED: the statements are not yours to turn. If you find one false, say at which input.
  Laid BY PROGRAM, IN A SANDBOX (cutbox-rows.mjs): the forced cells as the released guide's own fill.sh prints them over the translation 7ef3b71c1fb7abab… (all of the seat's roots in one cut). By AI agents, Wed Nov 11 2026. No macro, syntax, notation, axiom, sorry.
-/
import Derived.Test.YtkbgkobbadjpnaaDoorChecked
import GoSem.Claim
import GoSem.ClaimJoined
import GoSem.ClaimMapViews
import Derived.JoinedTies
import Derived.KernelRfl
namespace Go.Proofs.YtkbgkobbadjpnaaDoor
/- THE CELL 'sum', in the pinned program and in every row, IS THE sha256 OF THE DUMP (.gsa) THAT YtkbgkobbadjpnaaDoorProg.lean LOADS. Nothing in Lean hashes anything: it is a label: what it is worth is what the hold of that sum in a sandbox is worth. -/
noncomputable def Tryd.pinned : Pinned := { name := "ytkbgkobbadjpnaadoor", sum := "7ef3b71c1fb7abab9d413ef48333a4452e6167b6c8364e850a772a747e59379c", checked := Tryd.checked }
namespace Rows
def none {H : Type} : Left H := { results := [], args := [] }

/- WHAT THE LISTED PACKAGE-LEVEL VARIABLES READ AS WHEN THE CALL BEGINS. Each datum BY PROGRAM (the guide's laid-datum.mjs) off the statement by which the dump's own 'gosem.cut.vars' lays the variable. In a bare row this is a premise. The card (YtkbgkobbadjpnaaDoorCards.lean) ties it to the program's text. -/
def laid_sealring_hash_primeRoots {H : Type} : DataW H := .agg [.lit (.int .u32 1116352408), .lit (.int .u32 1899447441), .lit (.int .u32 3049323471), .lit (.int .u32 3921009573), .lit (.int .u32 961987163), .lit (.int .u32 1508970993), .lit (.int .u32 2453635748), .lit (.int .u32 2870763221), .lit (.int .u32 3624381080), .lit (.int .u32 310598401), .lit (.int .u32 607225278), .lit (.int .u32 1426881987), .lit (.int .u32 1925078388), .lit (.int .u32 2162078206), .lit (.int .u32 2614888103), .lit (.int .u32 3248222580), .lit (.int .u32 3835390401), .lit (.int .u32 4022224774), .lit (.int .u32 264347078), .lit (.int .u32 604807628), .lit (.int .u32 770255983), .lit (.int .u32 1249150122), .lit (.int .u32 1555081692), .lit (.int .u32 1996064986), .lit (.int .u32 2554220882), .lit (.int .u32 2821834349), .lit (.int .u32 2952996808), .lit (.int .u32 3210313671), .lit (.int .u32 3336571891), .lit (.int .u32 3584528711), .lit (.int .u32 113926993), .lit (.int .u32 338241895), .lit (.int .u32 666307205), .lit (.int .u32 773529912), .lit (.int .u32 1294757372), .lit (.int .u32 1396182291), .lit (.int .u32 1695183700), .lit (.int .u32 1986661051), .lit (.int .u32 2177026350), .lit (.int .u32 2456956037), .lit (.int .u32 2730485921), .lit (.int .u32 2820302411), .lit (.int .u32 3259730800), .lit (.int .u32 3345764771), .lit (.int .u32 3516065817), .lit (.int .u32 3600352804), .lit (.int .u32 4094571909), .lit (.int .u32 275423344), .lit (.int .u32 430227734), .lit (.int .u32 506948616), .lit (.int .u32 659060556), .lit (.int .u32 883997877), .lit (.int .u32 958139571), .lit (.int .u32 1322822218), .lit (.int .u32 1537002063), .lit (.int .u32 1747873779), .lit (.int .u32 1955562222), .lit (.int .u32 2024104815), .lit (.int .u32 2227730452), .lit (.int .u32 2361852424), .lit (.int .u32 2428436474), .lit (.int .u32 2756734187), .lit (.int .u32 3204031479), .lit (.int .u32 3329325298)]

/-- 'sealringkeep.SignOnly': WHATEVER THE INPUT: true; the input reads as it did. -/
def signOnlySpec : ChangeSpec := { name := "signOnly", fn := fun _ => fun
  | [d1, d2, d3, d4, d5] => { results := [.lit (.bool true)], args := [d1, d2, d3, d4, d5] }
  | _ => none }
def signOnlyRow : OpenClaim := { program := "ytkbgkobbadjpnaadoor", sum := "7ef3b71c1fb7abab9d413ef48333a4452e6167b6c8364e850a772a747e59379c", func := "sealring/sealringkeep.SignOnly", spec := "signOnly", inPlace := ["math/bits.Add64", "math/bits.Sub64"], named := ["sealring/hash.primeRoots"], apart := false, laid := [("sealring/hash.primeRoots", laid_sealring_hash_primeRoots)] }
def SignOnlySaid : Prop := signOnlyRow.holds Tryd.pinned (OpenSpec.ofChange signOnlySpec)

/-- ITS FALSE NEIGHBOUR: 'it returns false'. Refute it at one input. -/
def signOnlyWrong : ChangeSpec := { name := "signOnly", fn := fun _ => fun
  | [d1, d2, d3, d4, d5] => { results := [.lit (.bool false)], args := [d1, d2, d3, d4, d5] }
  | _ => none }
def SignOnlyWrongFalsely : Prop := signOnlyRow.holds Tryd.pinned (OpenSpec.ofChange signOnlyWrong)

/-- 'sealringkeep.SignPairs': WHATEVER THE INPUT: true; the input reads as it did. -/
def signPairsSpec : ChangeSpec := { name := "signPairs", fn := fun _ => fun
  | [d1, d2, d3] => { results := [.lit (.bool true)], args := [d1, d2, d3] }
  | _ => none }
def signPairsRow : OpenClaim := { program := "ytkbgkobbadjpnaadoor", sum := "7ef3b71c1fb7abab9d413ef48333a4452e6167b6c8364e850a772a747e59379c", func := "sealring/sealringkeep.SignPairs", spec := "signPairs", inPlace := ["math/bits.Sub64", "math/bits.Add64"], named := ["sealring/hash.primeRoots"], apart := false, laid := [("sealring/hash.primeRoots", laid_sealring_hash_primeRoots)] }
def SignPairsSaid : Prop := signPairsRow.holds Tryd.pinned (OpenSpec.ofChange signPairsSpec)

/-- ITS FALSE NEIGHBOUR: 'it returns false'. Refute it at one input. -/
def signPairsWrong : ChangeSpec := { name := "signPairs", fn := fun _ => fun
  | [d1, d2, d3] => { results := [.lit (.bool false)], args := [d1, d2, d3] }
  | _ => none }
def SignPairsWrongFalsely : Prop := signPairsRow.holds Tryd.pinned (OpenSpec.ofChange signPairsWrong)

/-- 'sealringkeep.SignTrue': WHATEVER THE INPUT: true; the input reads as it did. -/
def signTrueSpec : ChangeSpec := { name := "signTrue", fn := fun _ => fun
  | [d1, d2] => { results := [.lit (.bool true)], args := [d1, d2] }
  | _ => none }
def signTrueRow : OpenClaim := { program := "ytkbgkobbadjpnaadoor", sum := "7ef3b71c1fb7abab9d413ef48333a4452e6167b6c8364e850a772a747e59379c", func := "sealring/sealringkeep.SignTrue", spec := "signTrue", inPlace := ["math/bits.Sub64", "math/bits.Add64"], named := ["sealring/hash.primeRoots"], apart := false, laid := [("sealring/hash.primeRoots", laid_sealring_hash_primeRoots)] }
def SignTrueSaid : Prop := signTrueRow.holds Tryd.pinned (OpenSpec.ofChange signTrueSpec)

/-- ITS FALSE NEIGHBOUR: 'it returns false'. Refute it at one input. -/
def signTrueWrong : ChangeSpec := { name := "signTrue", fn := fun _ => fun
  | [d1, d2] => { results := [.lit (.bool false)], args := [d1, d2] }
  | _ => none }
def SignTrueWrongFalsely : Prop := signTrueRow.holds Tryd.pinned (OpenSpec.ofChange signTrueWrong)

/-- 'sealringkeep.SignAgain': WHATEVER THE INPUT: true; the input reads as it did. -/
def signAgainSpec : ChangeSpec := { name := "signAgain", fn := fun _ => fun
  | [d1, d2, d3] => { results := [.lit (.bool true)], args := [d1, d2, d3] }
  | _ => none }
def signAgainRow : OpenClaim := { program := "ytkbgkobbadjpnaadoor", sum := "7ef3b71c1fb7abab9d413ef48333a4452e6167b6c8364e850a772a747e59379c", func := "sealring/sealringkeep.SignAgain", spec := "signAgain", inPlace := ["math/bits.Sub64", "math/bits.Add64"], named := ["sealring/hash.primeRoots"], apart := false, laid := [("sealring/hash.primeRoots", laid_sealring_hash_primeRoots)] }
def SignAgainSaid : Prop := signAgainRow.holds Tryd.pinned (OpenSpec.ofChange signAgainSpec)

/-- ITS FALSE NEIGHBOUR: 'it returns false'. Refute it at one input. -/
def signAgainWrong : ChangeSpec := { name := "signAgain", fn := fun _ => fun
  | [d1, d2, d3] => { results := [.lit (.bool false)], args := [d1, d2, d3] }
  | _ => none }
def SignAgainWrongFalsely : Prop := signAgainRow.holds Tryd.pinned (OpenSpec.ofChange signAgainWrong)

/-- 'sealringkeep.SignBatch': WHATEVER THE INPUT: true; the input reads as it did. -/
def signBatchSpec : ChangeSpec := { name := "signBatch", fn := fun _ => fun
  | [d1, d2, d3] => { results := [.lit (.bool true)], args := [d1, d2, d3] }
  | _ => none }
def signBatchRow : OpenClaim := { program := "ytkbgkobbadjpnaadoor", sum := "7ef3b71c1fb7abab9d413ef48333a4452e6167b6c8364e850a772a747e59379c", func := "sealring/sealringkeep.SignBatch", spec := "signBatch", inPlace := ["math/bits.Sub64", "math/bits.Add64"], named := ["sealring/hash.primeRoots"], apart := false, laid := [("sealring/hash.primeRoots", laid_sealring_hash_primeRoots)] }
def SignBatchSaid : Prop := signBatchRow.holds Tryd.pinned (OpenSpec.ofChange signBatchSpec)

/-- ITS FALSE NEIGHBOUR: 'it returns false'. Refute it at one input. -/
def signBatchWrong : ChangeSpec := { name := "signBatch", fn := fun _ => fun
  | [d1, d2, d3] => { results := [.lit (.bool false)], args := [d1, d2, d3] }
  | _ => none }
def SignBatchWrongFalsely : Prop := signBatchRow.holds Tryd.pinned (OpenSpec.ofChange signBatchWrong)

/-- 'sealringkeep.SignAlone': WHATEVER THE INPUT: true; the input reads as it did. -/
def signAloneSpec : ChangeSpec := { name := "signAlone", fn := fun _ => fun
  | [d1, d2, d3] => { results := [.lit (.bool true)], args := [d1, d2, d3] }
  | _ => none }
def signAloneRow : OpenClaim := { program := "ytkbgkobbadjpnaadoor", sum := "7ef3b71c1fb7abab9d413ef48333a4452e6167b6c8364e850a772a747e59379c", func := "sealring/sealringkeep.SignAlone", spec := "signAlone", inPlace := ["math/bits.Sub64", "math/bits.Add64"], named := ["sealring/hash.primeRoots"], apart := false, laid := [("sealring/hash.primeRoots", laid_sealring_hash_primeRoots)] }
def SignAloneSaid : Prop := signAloneRow.holds Tryd.pinned (OpenSpec.ofChange signAloneSpec)

/-- ITS FALSE NEIGHBOUR: 'it returns false'. Refute it at one input. -/
def signAloneWrong : ChangeSpec := { name := "signAlone", fn := fun _ => fun
  | [d1, d2, d3] => { results := [.lit (.bool false)], args := [d1, d2, d3] }
  | _ => none }
def SignAloneWrongFalsely : Prop := signAloneRow.holds Tryd.pinned (OpenSpec.ofChange signAloneWrong)

/-- 'sealringkeep.ShareSums': WHATEVER THE INPUT: true; the input reads as it did. -/
def shareSumsSpec : ChangeSpec := { name := "shareSums", fn := fun _ => fun
  | [d1, d2, d3, d4, d5, d6] => { results := [.lit (.bool true)], args := [d1, d2, d3, d4, d5, d6] }
  | _ => none }
def shareSumsRow : OpenClaim := { program := "ytkbgkobbadjpnaadoor", sum := "7ef3b71c1fb7abab9d413ef48333a4452e6167b6c8364e850a772a747e59379c", func := "sealring/sealringkeep.ShareSums", spec := "shareSums", inPlace := ["math/bits.Sub64", "math/bits.Add64"], named := ["sealring/hash.primeRoots"], apart := false, laid := [("sealring/hash.primeRoots", laid_sealring_hash_primeRoots)] }
def ShareSumsSaid : Prop := shareSumsRow.holds Tryd.pinned (OpenSpec.ofChange shareSumsSpec)

/-- ITS FALSE NEIGHBOUR: 'it returns false'. Refute it at one input. -/
def shareSumsWrong : ChangeSpec := { name := "shareSums", fn := fun _ => fun
  | [d1, d2, d3, d4, d5, d6] => { results := [.lit (.bool false)], args := [d1, d2, d3, d4, d5, d6] }
  | _ => none }
def ShareSumsWrongFalsely : Prop := shareSumsRow.holds Tryd.pinned (OpenSpec.ofChange shareSumsWrong)

/-- 'sealringkeep.ShareFew': WHATEVER THE INPUT: true; the input reads as it did. -/
def shareFewSpec : ChangeSpec := { name := "shareFew", fn := fun _ => fun
  | [d1, d2, d3] => { results := [.lit (.bool true)], args := [d1, d2, d3] }
  | _ => none }
def shareFewRow : OpenClaim := { program := "ytkbgkobbadjpnaadoor", sum := "7ef3b71c1fb7abab9d413ef48333a4452e6167b6c8364e850a772a747e59379c", func := "sealring/sealringkeep.ShareFew", spec := "shareFew", inPlace := ["math/bits.Sub64", "math/bits.Add64"], unfollowed := true, recurses := true, named := ["sealring/hash.primeRoots"], apart := false, laid := [("sealring/hash.primeRoots", laid_sealring_hash_primeRoots)] }
def ShareFewSaid : Prop := shareFewRow.holds Tryd.pinned (OpenSpec.ofChange shareFewSpec)

/-- ITS FALSE NEIGHBOUR: 'it returns false'. Refute it at one input. -/
def shareFewWrong : ChangeSpec := { name := "shareFew", fn := fun _ => fun
  | [d1, d2, d3] => { results := [.lit (.bool false)], args := [d1, d2, d3] }
  | _ => none }
def ShareFewWrongFalsely : Prop := shareFewRow.holds Tryd.pinned (OpenSpec.ofChange shareFewWrong)

/-- 'sealringkeep.ShareMore': WHATEVER THE INPUT: true; the input reads as it did. -/
def shareMoreSpec : ChangeSpec := { name := "shareMore", fn := fun _ => fun
  | [d1, d2, d3] => { results := [.lit (.bool true)], args := [d1, d2, d3] }
  | _ => none }
def shareMoreRow : OpenClaim := { program := "ytkbgkobbadjpnaadoor", sum := "7ef3b71c1fb7abab9d413ef48333a4452e6167b6c8364e850a772a747e59379c", func := "sealring/sealringkeep.ShareMore", spec := "shareMore", inPlace := ["math/bits.Sub64", "math/bits.Add64"], named := ["sealring/hash.primeRoots"], apart := false, laid := [("sealring/hash.primeRoots", laid_sealring_hash_primeRoots)] }
def ShareMoreSaid : Prop := shareMoreRow.holds Tryd.pinned (OpenSpec.ofChange shareMoreSpec)

/-- ITS FALSE NEIGHBOUR: 'it returns false'. Refute it at one input. -/
def shareMoreWrong : ChangeSpec := { name := "shareMore", fn := fun _ => fun
  | [d1, d2, d3] => { results := [.lit (.bool false)], args := [d1, d2, d3] }
  | _ => none }
def ShareMoreWrongFalsely : Prop := shareMoreRow.holds Tryd.pinned (OpenSpec.ofChange shareMoreWrong)

/-- 'sealringkeep.ShareAny': WHATEVER THE INPUT: true; the input reads as it did. -/
def shareAnySpec : ChangeSpec := { name := "shareAny", fn := fun _ => fun
  | [d1, d2, d3, d4, d5] => { results := [.lit (.bool true)], args := [d1, d2, d3, d4, d5] }
  | _ => none }
def shareAnyRow : OpenClaim := { program := "ytkbgkobbadjpnaadoor", sum := "7ef3b71c1fb7abab9d413ef48333a4452e6167b6c8364e850a772a747e59379c", func := "sealring/sealringkeep.ShareAny", spec := "shareAny", inPlace := ["math/bits.Sub64", "math/bits.Add64"], named := ["sealring/hash.primeRoots"], apart := false, laid := [("sealring/hash.primeRoots", laid_sealring_hash_primeRoots)] }
def ShareAnySaid : Prop := shareAnyRow.holds Tryd.pinned (OpenSpec.ofChange shareAnySpec)

/-- ITS FALSE NEIGHBOUR: 'it returns false'. Refute it at one input. -/
def shareAnyWrong : ChangeSpec := { name := "shareAny", fn := fun _ => fun
  | [d1, d2, d3, d4, d5] => { results := [.lit (.bool false)], args := [d1, d2, d3, d4, d5] }
  | _ => none }
def ShareAnyWrongFalsely : Prop := shareAnyRow.holds Tryd.pinned (OpenSpec.ofChange shareAnyWrong)

/- THE SECOND FORM. 'bulk': how many values and letters a reading holds, each counted each time it is reached (what is shared counts as often as it is met; a slice's spare places count too). A statement '..UptoSaid' is the law's where the arguments, and the package variables that the reading takes, are together of bulk at most 1048576: NARROWER than '..Said'. Prove '..Said' where nothing that the law and all that it calls make is longer than what came in: it says more and counts as full. Else prove '..UptoSaid'. A law counts once. -/
mutual
def uptoBulk {H : Type} : DataW H → Nat
  | .lit (.string bytes) => bytes.length + 1
  | .lit _ => 1
  | .nil => 1
  | .ptr d => uptoBulk d + 1
  | .slice elems spare => uptoBulkAll elems + uptoBulkAll spare + 1
  | .agg parts => uptoBulkAll parts + 1
  | .iface _ d => uptoBulk d + 1
  | .map entries => uptoBulkEntries entries + 1
  | .held _ => 1
def uptoBulkAll {H : Type} : List (DataW H) → Nat
  | [] => 0
  | d :: r => uptoBulk d + uptoBulkAll r
def uptoBulkEntries {H : Type} : List (Lit × DataW H) → Nat
  | [] => 0
  | x :: r => uptoBulkEntry x + uptoBulkEntries r
def uptoBulkEntry {H : Type} : Lit × DataW H → Nat
  | (.string bytes, d) => bytes.length + uptoBulk d + 1
  | (_, d) => uptoBulk d + 1
 end
def uptoSmall : (H : Type) → List (DataW H) → Bool := fun _ ds => decide (uptoBulkAll ds ≤ 1048576)
def OpenSpec.upto (s : _root_.Go.ChangeSpec) : _root_.Go.OpenSpec := { _root_.Go.OpenSpec.ofChange s with cond := some uptoSmall }

/-- 'sealringkeep.SignOnly', WHERE WHAT IT READS IS OF BULK AT MOST 1048576: true; the input reads as it did. -/
def signOnlyUptoRow : OpenClaim := { program := "ytkbgkobbadjpnaadoor", sum := "7ef3b71c1fb7abab9d413ef48333a4452e6167b6c8364e850a772a747e59379c", func := "sealring/sealringkeep.SignOnly", spec := "signOnly", inPlace := ["math/bits.Add64", "math/bits.Sub64"], named := ["sealring/hash.primeRoots"], apart := false, laid := [("sealring/hash.primeRoots", laid_sealring_hash_primeRoots)], narrowed := true }
def SignOnlyUptoSaid : Prop := signOnlyUptoRow.holds Tryd.pinned (OpenSpec.upto signOnlySpec)

/-- 'sealringkeep.SignPairs', WHERE WHAT IT READS IS OF BULK AT MOST 1048576: true; the input reads as it did. -/
def signPairsUptoRow : OpenClaim := { program := "ytkbgkobbadjpnaadoor", sum := "7ef3b71c1fb7abab9d413ef48333a4452e6167b6c8364e850a772a747e59379c", func := "sealring/sealringkeep.SignPairs", spec := "signPairs", inPlace := ["math/bits.Sub64", "math/bits.Add64"], named := ["sealring/hash.primeRoots"], apart := false, laid := [("sealring/hash.primeRoots", laid_sealring_hash_primeRoots)], narrowed := true }
def SignPairsUptoSaid : Prop := signPairsUptoRow.holds Tryd.pinned (OpenSpec.upto signPairsSpec)

/-- 'sealringkeep.SignTrue', WHERE WHAT IT READS IS OF BULK AT MOST 1048576: true; the input reads as it did. -/
def signTrueUptoRow : OpenClaim := { program := "ytkbgkobbadjpnaadoor", sum := "7ef3b71c1fb7abab9d413ef48333a4452e6167b6c8364e850a772a747e59379c", func := "sealring/sealringkeep.SignTrue", spec := "signTrue", inPlace := ["math/bits.Sub64", "math/bits.Add64"], named := ["sealring/hash.primeRoots"], apart := false, laid := [("sealring/hash.primeRoots", laid_sealring_hash_primeRoots)], narrowed := true }
def SignTrueUptoSaid : Prop := signTrueUptoRow.holds Tryd.pinned (OpenSpec.upto signTrueSpec)

/-- 'sealringkeep.SignAgain', WHERE WHAT IT READS IS OF BULK AT MOST 1048576: true; the input reads as it did. -/
def signAgainUptoRow : OpenClaim := { program := "ytkbgkobbadjpnaadoor", sum := "7ef3b71c1fb7abab9d413ef48333a4452e6167b6c8364e850a772a747e59379c", func := "sealring/sealringkeep.SignAgain", spec := "signAgain", inPlace := ["math/bits.Sub64", "math/bits.Add64"], named := ["sealring/hash.primeRoots"], apart := false, laid := [("sealring/hash.primeRoots", laid_sealring_hash_primeRoots)], narrowed := true }
def SignAgainUptoSaid : Prop := signAgainUptoRow.holds Tryd.pinned (OpenSpec.upto signAgainSpec)

/-- 'sealringkeep.SignBatch', WHERE WHAT IT READS IS OF BULK AT MOST 1048576: true; the input reads as it did. -/
def signBatchUptoRow : OpenClaim := { program := "ytkbgkobbadjpnaadoor", sum := "7ef3b71c1fb7abab9d413ef48333a4452e6167b6c8364e850a772a747e59379c", func := "sealring/sealringkeep.SignBatch", spec := "signBatch", inPlace := ["math/bits.Sub64", "math/bits.Add64"], named := ["sealring/hash.primeRoots"], apart := false, laid := [("sealring/hash.primeRoots", laid_sealring_hash_primeRoots)], narrowed := true }
def SignBatchUptoSaid : Prop := signBatchUptoRow.holds Tryd.pinned (OpenSpec.upto signBatchSpec)

/-- 'sealringkeep.SignAlone', WHERE WHAT IT READS IS OF BULK AT MOST 1048576: true; the input reads as it did. -/
def signAloneUptoRow : OpenClaim := { program := "ytkbgkobbadjpnaadoor", sum := "7ef3b71c1fb7abab9d413ef48333a4452e6167b6c8364e850a772a747e59379c", func := "sealring/sealringkeep.SignAlone", spec := "signAlone", inPlace := ["math/bits.Sub64", "math/bits.Add64"], named := ["sealring/hash.primeRoots"], apart := false, laid := [("sealring/hash.primeRoots", laid_sealring_hash_primeRoots)], narrowed := true }
def SignAloneUptoSaid : Prop := signAloneUptoRow.holds Tryd.pinned (OpenSpec.upto signAloneSpec)

/-- 'sealringkeep.ShareSums', WHERE WHAT IT READS IS OF BULK AT MOST 1048576: true; the input reads as it did. -/
def shareSumsUptoRow : OpenClaim := { program := "ytkbgkobbadjpnaadoor", sum := "7ef3b71c1fb7abab9d413ef48333a4452e6167b6c8364e850a772a747e59379c", func := "sealring/sealringkeep.ShareSums", spec := "shareSums", inPlace := ["math/bits.Sub64", "math/bits.Add64"], named := ["sealring/hash.primeRoots"], apart := false, laid := [("sealring/hash.primeRoots", laid_sealring_hash_primeRoots)], narrowed := true }
def ShareSumsUptoSaid : Prop := shareSumsUptoRow.holds Tryd.pinned (OpenSpec.upto shareSumsSpec)

/-- 'sealringkeep.ShareFew', WHERE WHAT IT READS IS OF BULK AT MOST 1048576: true; the input reads as it did. -/
def shareFewUptoRow : OpenClaim := { program := "ytkbgkobbadjpnaadoor", sum := "7ef3b71c1fb7abab9d413ef48333a4452e6167b6c8364e850a772a747e59379c", func := "sealring/sealringkeep.ShareFew", spec := "shareFew", inPlace := ["math/bits.Sub64", "math/bits.Add64"], unfollowed := true, recurses := true, named := ["sealring/hash.primeRoots"], apart := false, laid := [("sealring/hash.primeRoots", laid_sealring_hash_primeRoots)], narrowed := true }
def ShareFewUptoSaid : Prop := shareFewUptoRow.holds Tryd.pinned (OpenSpec.upto shareFewSpec)

/-- 'sealringkeep.ShareMore', WHERE WHAT IT READS IS OF BULK AT MOST 1048576: true; the input reads as it did. -/
def shareMoreUptoRow : OpenClaim := { program := "ytkbgkobbadjpnaadoor", sum := "7ef3b71c1fb7abab9d413ef48333a4452e6167b6c8364e850a772a747e59379c", func := "sealring/sealringkeep.ShareMore", spec := "shareMore", inPlace := ["math/bits.Sub64", "math/bits.Add64"], named := ["sealring/hash.primeRoots"], apart := false, laid := [("sealring/hash.primeRoots", laid_sealring_hash_primeRoots)], narrowed := true }
def ShareMoreUptoSaid : Prop := shareMoreUptoRow.holds Tryd.pinned (OpenSpec.upto shareMoreSpec)

/-- 'sealringkeep.ShareAny', WHERE WHAT IT READS IS OF BULK AT MOST 1048576: true; the input reads as it did. -/
def shareAnyUptoRow : OpenClaim := { program := "ytkbgkobbadjpnaadoor", sum := "7ef3b71c1fb7abab9d413ef48333a4452e6167b6c8364e850a772a747e59379c", func := "sealring/sealringkeep.ShareAny", spec := "shareAny", inPlace := ["math/bits.Sub64", "math/bits.Add64"], named := ["sealring/hash.primeRoots"], apart := false, laid := [("sealring/hash.primeRoots", laid_sealring_hash_primeRoots)], narrowed := true }
def ShareAnyUptoSaid : Prop := shareAnyUptoRow.holds Tryd.pinned (OpenSpec.upto shareAnySpec)

end Rows
end Go.Proofs.YtkbgkobbadjpnaaDoor
