/-
  NARROWER THAN 'FOR EVERY INPUT', by the rows' own cells (each row's printed sentence says how): TreePeaks: laid · TreePaths: laid · TreeLongs: laid · DrawKeys: laid · DrawParts: laid · DrawBlocks: laid · DrawBelow: laid · PinStretch: laid · PinLocks: laid · PinBack: laid · PinChanges: laid.
  DERIVED. THE GIVEN ROWS OF THIS SEAT. 11 by the template 'for every input the law returns true; each argument reads behind the call as it read before'; 0 by the template 'total and deterministic' (their statements: YtdhoboilpngnaaaDoorTotals.lean).
  GIVEN WITH THE SEED: the statements are not yours to turn. If you find one false, say at which input.
  Laid BY PROGRAM, IN A SANDBOX (cutbox-rows.mjs): the forced cells as the released guide's own fill.sh prints them over the translation a10efc006bffcb49… (all of the seat's roots in one cut). By AI agents, Wed Nov 11 2026. No macro, syntax, notation, axiom, sorry.
-/
import Derived.Test.YtdhoboilpngnaaaDoorChecked
import GoSem.Claim
import GoSem.ClaimJoined
import GoSem.ClaimMapViews
import Derived.JoinedTies
import Derived.KernelRfl
namespace Go.Proofs.YtdhoboilpngnaaaDoor
/- THE CELL 'sum', in the pinned program and in every row, IS THE sha256 OF THE DUMP (.gsa) THAT YtdhoboilpngnaaaDoorProg.lean LOADS. Nothing in Lean hashes anything: it is a label: what it is worth is what the hold of that sum in a sandbox is worth. -/
noncomputable def Tryd.pinned : Pinned := { name := "ytdhoboilpngnaaadoor", sum := "a10efc006bffcb499c7fa8ea6006e2ed55900e0a80069e218ee93f35dc5fa906", checked := Tryd.checked }
namespace Rows
def none {H : Type} : Left H := { results := [], args := [] }

/- WHAT THE LISTED PACKAGE-LEVEL VARIABLES READ AS WHEN THE CALL BEGINS. Each datum BY PROGRAM (the guide's laid-datum.mjs) off the statement by which the dump's own 'gosem.cut.vars' lays the variable. In a bare row this is a premise. The card (YtdhoboilpngnaaaDoorCards.lean) ties it to the program's text. -/
def laid_sealring_hash_primeRoots {H : Type} : DataW H := .agg [.lit (.int .u32 1116352408), .lit (.int .u32 1899447441), .lit (.int .u32 3049323471), .lit (.int .u32 3921009573), .lit (.int .u32 961987163), .lit (.int .u32 1508970993), .lit (.int .u32 2453635748), .lit (.int .u32 2870763221), .lit (.int .u32 3624381080), .lit (.int .u32 310598401), .lit (.int .u32 607225278), .lit (.int .u32 1426881987), .lit (.int .u32 1925078388), .lit (.int .u32 2162078206), .lit (.int .u32 2614888103), .lit (.int .u32 3248222580), .lit (.int .u32 3835390401), .lit (.int .u32 4022224774), .lit (.int .u32 264347078), .lit (.int .u32 604807628), .lit (.int .u32 770255983), .lit (.int .u32 1249150122), .lit (.int .u32 1555081692), .lit (.int .u32 1996064986), .lit (.int .u32 2554220882), .lit (.int .u32 2821834349), .lit (.int .u32 2952996808), .lit (.int .u32 3210313671), .lit (.int .u32 3336571891), .lit (.int .u32 3584528711), .lit (.int .u32 113926993), .lit (.int .u32 338241895), .lit (.int .u32 666307205), .lit (.int .u32 773529912), .lit (.int .u32 1294757372), .lit (.int .u32 1396182291), .lit (.int .u32 1695183700), .lit (.int .u32 1986661051), .lit (.int .u32 2177026350), .lit (.int .u32 2456956037), .lit (.int .u32 2730485921), .lit (.int .u32 2820302411), .lit (.int .u32 3259730800), .lit (.int .u32 3345764771), .lit (.int .u32 3516065817), .lit (.int .u32 3600352804), .lit (.int .u32 4094571909), .lit (.int .u32 275423344), .lit (.int .u32 430227734), .lit (.int .u32 506948616), .lit (.int .u32 659060556), .lit (.int .u32 883997877), .lit (.int .u32 958139571), .lit (.int .u32 1322822218), .lit (.int .u32 1537002063), .lit (.int .u32 1747873779), .lit (.int .u32 1955562222), .lit (.int .u32 2024104815), .lit (.int .u32 2227730452), .lit (.int .u32 2361852424), .lit (.int .u32 2428436474), .lit (.int .u32 2756734187), .lit (.int .u32 3204031479), .lit (.int .u32 3329325298)]

/-- 'sealringkeep.TreePeaks': WHATEVER THE INPUT: true; the input reads as it did. -/
def treePeaksSpec : ChangeSpec := { name := "treePeaks", fn := fun _ => fun
  | [d1, d2] => { results := [.lit (.bool true)], args := [d1, d2] }
  | _ => none }
def treePeaksRow : OpenClaim := { program := "ytdhoboilpngnaaadoor", sum := "a10efc006bffcb499c7fa8ea6006e2ed55900e0a80069e218ee93f35dc5fa906", func := "sealring/sealringkeep.TreePeaks", spec := "treePeaks", recurses := true, named := ["sealring/hash.primeRoots"], apart := false, laid := [("sealring/hash.primeRoots", laid_sealring_hash_primeRoots)] }
def TreePeaksSaid : Prop := treePeaksRow.holds Tryd.pinned (OpenSpec.ofChange treePeaksSpec)

/-- ITS FALSE NEIGHBOUR: 'it returns false'. Refute it at one input. -/
def treePeaksWrong : ChangeSpec := { name := "treePeaks", fn := fun _ => fun
  | [d1, d2] => { results := [.lit (.bool false)], args := [d1, d2] }
  | _ => none }
def TreePeaksWrongFalsely : Prop := treePeaksRow.holds Tryd.pinned (OpenSpec.ofChange treePeaksWrong)

/-- 'sealringkeep.TreePaths': WHATEVER THE INPUT: true; the input reads as it did. -/
def treePathsSpec : ChangeSpec := { name := "treePaths", fn := fun _ => fun
  | [d1, d2] => { results := [.lit (.bool true)], args := [d1, d2] }
  | _ => none }
def treePathsRow : OpenClaim := { program := "ytdhoboilpngnaaadoor", sum := "a10efc006bffcb499c7fa8ea6006e2ed55900e0a80069e218ee93f35dc5fa906", func := "sealring/sealringkeep.TreePaths", spec := "treePaths", recurses := true, named := ["sealring/hash.primeRoots"], apart := false, laid := [("sealring/hash.primeRoots", laid_sealring_hash_primeRoots)] }
def TreePathsSaid : Prop := treePathsRow.holds Tryd.pinned (OpenSpec.ofChange treePathsSpec)

/-- ITS FALSE NEIGHBOUR: 'it returns false'. Refute it at one input. -/
def treePathsWrong : ChangeSpec := { name := "treePaths", fn := fun _ => fun
  | [d1, d2] => { results := [.lit (.bool false)], args := [d1, d2] }
  | _ => none }
def TreePathsWrongFalsely : Prop := treePathsRow.holds Tryd.pinned (OpenSpec.ofChange treePathsWrong)

/-- 'sealringkeep.TreeLongs': WHATEVER THE INPUT: true; the input reads as it did. -/
def treeLongsSpec : ChangeSpec := { name := "treeLongs", fn := fun _ => fun
  | [d1, d2, d3, d4, d5] => { results := [.lit (.bool true)], args := [d1, d2, d3, d4, d5] }
  | _ => none }
def treeLongsRow : OpenClaim := { program := "ytdhoboilpngnaaadoor", sum := "a10efc006bffcb499c7fa8ea6006e2ed55900e0a80069e218ee93f35dc5fa906", func := "sealring/sealringkeep.TreeLongs", spec := "treeLongs", recurses := true, named := ["sealring/hash.primeRoots"], apart := false, laid := [("sealring/hash.primeRoots", laid_sealring_hash_primeRoots)] }
def TreeLongsSaid : Prop := treeLongsRow.holds Tryd.pinned (OpenSpec.ofChange treeLongsSpec)

/-- ITS FALSE NEIGHBOUR: 'it returns false'. Refute it at one input. -/
def treeLongsWrong : ChangeSpec := { name := "treeLongs", fn := fun _ => fun
  | [d1, d2, d3, d4, d5] => { results := [.lit (.bool false)], args := [d1, d2, d3, d4, d5] }
  | _ => none }
def TreeLongsWrongFalsely : Prop := treeLongsRow.holds Tryd.pinned (OpenSpec.ofChange treeLongsWrong)

/-- 'sealringkeep.DrawKeys': WHATEVER THE INPUT: true; the input reads as it did. -/
def drawKeysSpec : ChangeSpec := { name := "drawKeys", fn := fun _ => fun
  | [d1, d2] => { results := [.lit (.bool true)], args := [d1, d2] }
  | _ => none }
def drawKeysRow : OpenClaim := { program := "ytdhoboilpngnaaadoor", sum := "a10efc006bffcb499c7fa8ea6006e2ed55900e0a80069e218ee93f35dc5fa906", func := "sealring/sealringkeep.DrawKeys", spec := "drawKeys", named := ["sealring/hash.primeRoots"], apart := false, laid := [("sealring/hash.primeRoots", laid_sealring_hash_primeRoots)] }
def DrawKeysSaid : Prop := drawKeysRow.holds Tryd.pinned (OpenSpec.ofChange drawKeysSpec)

/-- ITS FALSE NEIGHBOUR: 'it returns false'. Refute it at one input. -/
def drawKeysWrong : ChangeSpec := { name := "drawKeys", fn := fun _ => fun
  | [d1, d2] => { results := [.lit (.bool false)], args := [d1, d2] }
  | _ => none }
def DrawKeysWrongFalsely : Prop := drawKeysRow.holds Tryd.pinned (OpenSpec.ofChange drawKeysWrong)

/-- 'sealringkeep.DrawParts': WHATEVER THE INPUT: true; the input reads as it did. -/
def drawPartsSpec : ChangeSpec := { name := "drawParts", fn := fun _ => fun
  | [d1, d2, d3] => { results := [.lit (.bool true)], args := [d1, d2, d3] }
  | _ => none }
def drawPartsRow : OpenClaim := { program := "ytdhoboilpngnaaadoor", sum := "a10efc006bffcb499c7fa8ea6006e2ed55900e0a80069e218ee93f35dc5fa906", func := "sealring/sealringkeep.DrawParts", spec := "drawParts", named := ["sealring/hash.primeRoots"], apart := false, laid := [("sealring/hash.primeRoots", laid_sealring_hash_primeRoots)] }
def DrawPartsSaid : Prop := drawPartsRow.holds Tryd.pinned (OpenSpec.ofChange drawPartsSpec)

/-- ITS FALSE NEIGHBOUR: 'it returns false'. Refute it at one input. -/
def drawPartsWrong : ChangeSpec := { name := "drawParts", fn := fun _ => fun
  | [d1, d2, d3] => { results := [.lit (.bool false)], args := [d1, d2, d3] }
  | _ => none }
def DrawPartsWrongFalsely : Prop := drawPartsRow.holds Tryd.pinned (OpenSpec.ofChange drawPartsWrong)

/-- 'sealringkeep.DrawBlocks': WHATEVER THE INPUT: true; the input reads as it did. -/
def drawBlocksSpec : ChangeSpec := { name := "drawBlocks", fn := fun _ => fun
  | [d1, d2] => { results := [.lit (.bool true)], args := [d1, d2] }
  | _ => none }
def drawBlocksRow : OpenClaim := { program := "ytdhoboilpngnaaadoor", sum := "a10efc006bffcb499c7fa8ea6006e2ed55900e0a80069e218ee93f35dc5fa906", func := "sealring/sealringkeep.DrawBlocks", spec := "drawBlocks", named := ["sealring/hash.primeRoots"], apart := false, laid := [("sealring/hash.primeRoots", laid_sealring_hash_primeRoots)] }
def DrawBlocksSaid : Prop := drawBlocksRow.holds Tryd.pinned (OpenSpec.ofChange drawBlocksSpec)

/-- ITS FALSE NEIGHBOUR: 'it returns false'. Refute it at one input. -/
def drawBlocksWrong : ChangeSpec := { name := "drawBlocks", fn := fun _ => fun
  | [d1, d2] => { results := [.lit (.bool false)], args := [d1, d2] }
  | _ => none }
def DrawBlocksWrongFalsely : Prop := drawBlocksRow.holds Tryd.pinned (OpenSpec.ofChange drawBlocksWrong)

/-- 'sealringkeep.DrawBelow': WHATEVER THE INPUT: true; the input reads as it did. -/
def drawBelowSpec : ChangeSpec := { name := "drawBelow", fn := fun _ => fun
  | [d1, d2, d3] => { results := [.lit (.bool true)], args := [d1, d2, d3] }
  | _ => none }
def drawBelowRow : OpenClaim := { program := "ytdhoboilpngnaaadoor", sum := "a10efc006bffcb499c7fa8ea6006e2ed55900e0a80069e218ee93f35dc5fa906", func := "sealring/sealringkeep.DrawBelow", spec := "drawBelow", inPlace := ["math/bits.Sub64"], named := ["sealring/hash.primeRoots"], apart := false, laid := [("sealring/hash.primeRoots", laid_sealring_hash_primeRoots)] }
def DrawBelowSaid : Prop := drawBelowRow.holds Tryd.pinned (OpenSpec.ofChange drawBelowSpec)

/-- ITS FALSE NEIGHBOUR: 'it returns false'. Refute it at one input. -/
def drawBelowWrong : ChangeSpec := { name := "drawBelow", fn := fun _ => fun
  | [d1, d2, d3] => { results := [.lit (.bool false)], args := [d1, d2, d3] }
  | _ => none }
def DrawBelowWrongFalsely : Prop := drawBelowRow.holds Tryd.pinned (OpenSpec.ofChange drawBelowWrong)

/-- 'sealringkeep.PinStretch': WHATEVER THE INPUT: true; the input reads as it did. -/
def pinStretchSpec : ChangeSpec := { name := "pinStretch", fn := fun _ => fun
  | [d1, d2] => { results := [.lit (.bool true)], args := [d1, d2] }
  | _ => none }
def pinStretchRow : OpenClaim := { program := "ytdhoboilpngnaaadoor", sum := "a10efc006bffcb499c7fa8ea6006e2ed55900e0a80069e218ee93f35dc5fa906", func := "sealring/sealringkeep.PinStretch", spec := "pinStretch", named := ["sealring/hash.primeRoots"], apart := false, laid := [("sealring/hash.primeRoots", laid_sealring_hash_primeRoots)] }
def PinStretchSaid : Prop := pinStretchRow.holds Tryd.pinned (OpenSpec.ofChange pinStretchSpec)

/-- ITS FALSE NEIGHBOUR: 'it returns false'. Refute it at one input. -/
def pinStretchWrong : ChangeSpec := { name := "pinStretch", fn := fun _ => fun
  | [d1, d2] => { results := [.lit (.bool false)], args := [d1, d2] }
  | _ => none }
def PinStretchWrongFalsely : Prop := pinStretchRow.holds Tryd.pinned (OpenSpec.ofChange pinStretchWrong)

/-- 'sealringkeep.PinLocks': WHATEVER THE INPUT: true; the input reads as it did. -/
def pinLocksSpec : ChangeSpec := { name := "pinLocks", fn := fun _ => fun
  | [d1, d2, d3, d4] => { results := [.lit (.bool true)], args := [d1, d2, d3, d4] }
  | _ => none }
def pinLocksRow : OpenClaim := { program := "ytdhoboilpngnaaadoor", sum := "a10efc006bffcb499c7fa8ea6006e2ed55900e0a80069e218ee93f35dc5fa906", func := "sealring/sealringkeep.PinLocks", spec := "pinLocks", named := ["sealring/hash.primeRoots"], apart := false, laid := [("sealring/hash.primeRoots", laid_sealring_hash_primeRoots)] }
def PinLocksSaid : Prop := pinLocksRow.holds Tryd.pinned (OpenSpec.ofChange pinLocksSpec)

/-- ITS FALSE NEIGHBOUR: 'it returns false'. Refute it at one input. -/
def pinLocksWrong : ChangeSpec := { name := "pinLocks", fn := fun _ => fun
  | [d1, d2, d3, d4] => { results := [.lit (.bool false)], args := [d1, d2, d3, d4] }
  | _ => none }
def PinLocksWrongFalsely : Prop := pinLocksRow.holds Tryd.pinned (OpenSpec.ofChange pinLocksWrong)

/-- 'sealringkeep.PinBack': WHATEVER THE INPUT: true; the input reads as it did. -/
def pinBackSpec : ChangeSpec := { name := "pinBack", fn := fun _ => fun
  | [d1, d2, d3, d4] => { results := [.lit (.bool true)], args := [d1, d2, d3, d4] }
  | _ => none }
def pinBackRow : OpenClaim := { program := "ytdhoboilpngnaaadoor", sum := "a10efc006bffcb499c7fa8ea6006e2ed55900e0a80069e218ee93f35dc5fa906", func := "sealring/sealringkeep.PinBack", spec := "pinBack", named := ["sealring/hash.primeRoots"], apart := false, laid := [("sealring/hash.primeRoots", laid_sealring_hash_primeRoots)] }
def PinBackSaid : Prop := pinBackRow.holds Tryd.pinned (OpenSpec.ofChange pinBackSpec)

/-- ITS FALSE NEIGHBOUR: 'it returns false'. Refute it at one input. -/
def pinBackWrong : ChangeSpec := { name := "pinBack", fn := fun _ => fun
  | [d1, d2, d3, d4] => { results := [.lit (.bool false)], args := [d1, d2, d3, d4] }
  | _ => none }
def PinBackWrongFalsely : Prop := pinBackRow.holds Tryd.pinned (OpenSpec.ofChange pinBackWrong)

/-- 'sealringkeep.PinChanges': WHATEVER THE INPUT: true; the input reads as it did. -/
def pinChangesSpec : ChangeSpec := { name := "pinChanges", fn := fun _ => fun
  | [d1, d2, d3, d4] => { results := [.lit (.bool true)], args := [d1, d2, d3, d4] }
  | _ => none }
def pinChangesRow : OpenClaim := { program := "ytdhoboilpngnaaadoor", sum := "a10efc006bffcb499c7fa8ea6006e2ed55900e0a80069e218ee93f35dc5fa906", func := "sealring/sealringkeep.PinChanges", spec := "pinChanges", named := ["sealring/hash.primeRoots"], apart := false, laid := [("sealring/hash.primeRoots", laid_sealring_hash_primeRoots)] }
def PinChangesSaid : Prop := pinChangesRow.holds Tryd.pinned (OpenSpec.ofChange pinChangesSpec)

/-- ITS FALSE NEIGHBOUR: 'it returns false'. Refute it at one input. -/
def pinChangesWrong : ChangeSpec := { name := "pinChanges", fn := fun _ => fun
  | [d1, d2, d3, d4] => { results := [.lit (.bool false)], args := [d1, d2, d3, d4] }
  | _ => none }
def PinChangesWrongFalsely : Prop := pinChangesRow.holds Tryd.pinned (OpenSpec.ofChange pinChangesWrong)

/- THE SECOND FORM. 'bulk': how many values and letters a reading holds, each counted each time it is reached (what is shared counts as often as it is met; a slice's spare places count too). A statement '..UptoSaid' is the law's where the arguments, and the package variables that the reading takes, are together of bulk at most 1048576: NARROWER than '..Said'. Prove '..Said' where nothing that the law and all that it calls make is longer than what came in: it says more and counts as full. Else prove '..UptoSaid'. A law counts once. -/
mutual
def uptoBulk {H : Type} : DataW H → Nat
  | .lit (.string bytes) => bytes.length + 1
  | .lit _ => 1
  | .nil => 1
  | .ptr d => uptoBulk d + 1
  | .slice elems spare => uptoBulkAll elems + uptoBulkAll spare + 1
  | .agg parts => uptoBulkAll parts + 1
  | .iface _ d => uptoBulk d + 1
  | .map entries => uptoBulkEntries entries + 1
  | .held _ => 1
def uptoBulkAll {H : Type} : List (DataW H) → Nat
  | [] => 0
  | d :: r => uptoBulk d + uptoBulkAll r
def uptoBulkEntries {H : Type} : List (Lit × DataW H) → Nat
  | [] => 0
  | x :: r => uptoBulkEntry x + uptoBulkEntries r
def uptoBulkEntry {H : Type} : Lit × DataW H → Nat
  | (.string bytes, d) => bytes.length + uptoBulk d + 1
  | (_, d) => uptoBulk d + 1
 end
def uptoSmall : (H : Type) → List (DataW H) → Bool := fun _ ds => decide (uptoBulkAll ds ≤ 1048576)
def OpenSpec.upto (s : _root_.Go.ChangeSpec) : _root_.Go.OpenSpec := { _root_.Go.OpenSpec.ofChange s with cond := some uptoSmall }

/-- 'sealringkeep.TreePeaks', WHERE WHAT IT READS IS OF BULK AT MOST 1048576: true; the input reads as it did. -/
def treePeaksUptoRow : OpenClaim := { program := "ytdhoboilpngnaaadoor", sum := "a10efc006bffcb499c7fa8ea6006e2ed55900e0a80069e218ee93f35dc5fa906", func := "sealring/sealringkeep.TreePeaks", spec := "treePeaks", recurses := true, named := ["sealring/hash.primeRoots"], apart := false, laid := [("sealring/hash.primeRoots", laid_sealring_hash_primeRoots)], narrowed := true }
def TreePeaksUptoSaid : Prop := treePeaksUptoRow.holds Tryd.pinned (OpenSpec.upto treePeaksSpec)

/-- 'sealringkeep.TreePaths', WHERE WHAT IT READS IS OF BULK AT MOST 1048576: true; the input reads as it did. -/
def treePathsUptoRow : OpenClaim := { program := "ytdhoboilpngnaaadoor", sum := "a10efc006bffcb499c7fa8ea6006e2ed55900e0a80069e218ee93f35dc5fa906", func := "sealring/sealringkeep.TreePaths", spec := "treePaths", recurses := true, named := ["sealring/hash.primeRoots"], apart := false, laid := [("sealring/hash.primeRoots", laid_sealring_hash_primeRoots)], narrowed := true }
def TreePathsUptoSaid : Prop := treePathsUptoRow.holds Tryd.pinned (OpenSpec.upto treePathsSpec)

/-- 'sealringkeep.TreeLongs', WHERE WHAT IT READS IS OF BULK AT MOST 1048576: true; the input reads as it did. -/
def treeLongsUptoRow : OpenClaim := { program := "ytdhoboilpngnaaadoor", sum := "a10efc006bffcb499c7fa8ea6006e2ed55900e0a80069e218ee93f35dc5fa906", func := "sealring/sealringkeep.TreeLongs", spec := "treeLongs", recurses := true, named := ["sealring/hash.primeRoots"], apart := false, laid := [("sealring/hash.primeRoots", laid_sealring_hash_primeRoots)], narrowed := true }
def TreeLongsUptoSaid : Prop := treeLongsUptoRow.holds Tryd.pinned (OpenSpec.upto treeLongsSpec)

/-- 'sealringkeep.DrawKeys', WHERE WHAT IT READS IS OF BULK AT MOST 1048576: true; the input reads as it did. -/
def drawKeysUptoRow : OpenClaim := { program := "ytdhoboilpngnaaadoor", sum := "a10efc006bffcb499c7fa8ea6006e2ed55900e0a80069e218ee93f35dc5fa906", func := "sealring/sealringkeep.DrawKeys", spec := "drawKeys", named := ["sealring/hash.primeRoots"], apart := false, laid := [("sealring/hash.primeRoots", laid_sealring_hash_primeRoots)], narrowed := true }
def DrawKeysUptoSaid : Prop := drawKeysUptoRow.holds Tryd.pinned (OpenSpec.upto drawKeysSpec)

/-- 'sealringkeep.DrawParts', WHERE WHAT IT READS IS OF BULK AT MOST 1048576: true; the input reads as it did. -/
def drawPartsUptoRow : OpenClaim := { program := "ytdhoboilpngnaaadoor", sum := "a10efc006bffcb499c7fa8ea6006e2ed55900e0a80069e218ee93f35dc5fa906", func := "sealring/sealringkeep.DrawParts", spec := "drawParts", named := ["sealring/hash.primeRoots"], apart := false, laid := [("sealring/hash.primeRoots", laid_sealring_hash_primeRoots)], narrowed := true }
def DrawPartsUptoSaid : Prop := drawPartsUptoRow.holds Tryd.pinned (OpenSpec.upto drawPartsSpec)

/-- 'sealringkeep.DrawBlocks', WHERE WHAT IT READS IS OF BULK AT MOST 1048576: true; the input reads as it did. -/
def drawBlocksUptoRow : OpenClaim := { program := "ytdhoboilpngnaaadoor", sum := "a10efc006bffcb499c7fa8ea6006e2ed55900e0a80069e218ee93f35dc5fa906", func := "sealring/sealringkeep.DrawBlocks", spec := "drawBlocks", named := ["sealring/hash.primeRoots"], apart := false, laid := [("sealring/hash.primeRoots", laid_sealring_hash_primeRoots)], narrowed := true }
def DrawBlocksUptoSaid : Prop := drawBlocksUptoRow.holds Tryd.pinned (OpenSpec.upto drawBlocksSpec)

/-- 'sealringkeep.DrawBelow', WHERE WHAT IT READS IS OF BULK AT MOST 1048576: true; the input reads as it did. -/
def drawBelowUptoRow : OpenClaim := { program := "ytdhoboilpngnaaadoor", sum := "a10efc006bffcb499c7fa8ea6006e2ed55900e0a80069e218ee93f35dc5fa906", func := "sealring/sealringkeep.DrawBelow", spec := "drawBelow", inPlace := ["math/bits.Sub64"], named := ["sealring/hash.primeRoots"], apart := false, laid := [("sealring/hash.primeRoots", laid_sealring_hash_primeRoots)], narrowed := true }
def DrawBelowUptoSaid : Prop := drawBelowUptoRow.holds Tryd.pinned (OpenSpec.upto drawBelowSpec)

/-- 'sealringkeep.PinStretch', WHERE WHAT IT READS IS OF BULK AT MOST 1048576: true; the input reads as it did. -/
def pinStretchUptoRow : OpenClaim := { program := "ytdhoboilpngnaaadoor", sum := "a10efc006bffcb499c7fa8ea6006e2ed55900e0a80069e218ee93f35dc5fa906", func := "sealring/sealringkeep.PinStretch", spec := "pinStretch", named := ["sealring/hash.primeRoots"], apart := false, laid := [("sealring/hash.primeRoots", laid_sealring_hash_primeRoots)], narrowed := true }
def PinStretchUptoSaid : Prop := pinStretchUptoRow.holds Tryd.pinned (OpenSpec.upto pinStretchSpec)

/-- 'sealringkeep.PinLocks', WHERE WHAT IT READS IS OF BULK AT MOST 1048576: true; the input reads as it did. -/
def pinLocksUptoRow : OpenClaim := { program := "ytdhoboilpngnaaadoor", sum := "a10efc006bffcb499c7fa8ea6006e2ed55900e0a80069e218ee93f35dc5fa906", func := "sealring/sealringkeep.PinLocks", spec := "pinLocks", named := ["sealring/hash.primeRoots"], apart := false, laid := [("sealring/hash.primeRoots", laid_sealring_hash_primeRoots)], narrowed := true }
def PinLocksUptoSaid : Prop := pinLocksUptoRow.holds Tryd.pinned (OpenSpec.upto pinLocksSpec)

/-- 'sealringkeep.PinBack', WHERE WHAT IT READS IS OF BULK AT MOST 1048576: true; the input reads as it did. -/
def pinBackUptoRow : OpenClaim := { program := "ytdhoboilpngnaaadoor", sum := "a10efc006bffcb499c7fa8ea6006e2ed55900e0a80069e218ee93f35dc5fa906", func := "sealring/sealringkeep.PinBack", spec := "pinBack", named := ["sealring/hash.primeRoots"], apart := false, laid := [("sealring/hash.primeRoots", laid_sealring_hash_primeRoots)], narrowed := true }
def PinBackUptoSaid : Prop := pinBackUptoRow.holds Tryd.pinned (OpenSpec.upto pinBackSpec)

/-- 'sealringkeep.PinChanges', WHERE WHAT IT READS IS OF BULK AT MOST 1048576: true; the input reads as it did. -/
def pinChangesUptoRow : OpenClaim := { program := "ytdhoboilpngnaaadoor", sum := "a10efc006bffcb499c7fa8ea6006e2ed55900e0a80069e218ee93f35dc5fa906", func := "sealring/sealringkeep.PinChanges", spec := "pinChanges", named := ["sealring/hash.primeRoots"], apart := false, laid := [("sealring/hash.primeRoots", laid_sealring_hash_primeRoots)], narrowed := true }
def PinChangesUptoSaid : Prop := pinChangesUptoRow.holds Tryd.pinned (OpenSpec.upto pinChangesSpec)

end Rows
end Go.Proofs.YtdhoboilpngnaaaDoor
