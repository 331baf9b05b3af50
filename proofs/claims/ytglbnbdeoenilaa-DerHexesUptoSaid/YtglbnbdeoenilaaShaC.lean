/- The package hash, walked: New. -/
import Derived.Test.YtglbnbdeoenilaaShaB
namespace Go.Proofs.Ytglbnbdeoenilaa
open Go.RowKit
set_option linter.unusedVariables false
set_option maxRecDepth 100000
set_option linter.unusedSimpArgs false
/-- A state as a row. -/
abbrev sgH (s : HS) : Sg := [(8, iw s.h), (1, #[.int .u64 (s.n : Int)]), (64, bys s.left)]
abbrev hv (s : HS) : Value := .agg (rwA (sgH s))
class HSo (s : HS) : Prop where
  out : s.ok
instance {s : HS} [h : HSo s] : SegL (iw s.h) 8 := seg_iw h.out.1
instance {s : HS} [h : HSo s] : SegL (bys s.left) 64 := seg_bys h.out.2.2.1
end Go.Proofs.Ytglbnbdeoenilaa
