/- Bytes of a segment of bytes, read as a row. -/
import Derived.Test.YtdmmbkhnhfcmcaaSegC
import Derived.Test.YtdmmbkhnhfcmcaaSegB
import Derived.Test.YtdmmbkhnhfcmcaaShaAll
namespace Go.Proofs.Ytdmmbkhnhfcmcaa
open Go.RowKit
set_option linter.unusedVariables false
set_option linter.unusedSimpArgs false
section
variable {X : Cx} {l : Blks}
theorem ld_sgB {t b off k e p m j : Nat} {g : Sg} {q cs : List Nat} [hu : KD X.P t true] [hs : SZ X.P t k] [hok : SgOk g] (hh : Has X l b (rwA g, e) := by first | (with_reducible assumption) | (refine Has.inn ?_; repeat (first | exact Inn.here | apply Inn.there | apply Inn.skipA))) (ha : atL g p m = some (bys q) := by rfl) (ho : p + j = off := by first | (with_reducible assumption) | rfl | omega)
    (hv : (q.drop j).take k = cs := by first | (with_reducible assumption)) (hj : j + k ≤ m := by first | (with_reducible assumption) | omega) : Ld X l t b off (.agg (bys cs)) :=
  ld_sgR (cs := bl cs) hh ha ho (by rw [← hv, bys, List.toList_toArray, bl_drop, bl_take]) hj
end
end Go.Proofs.Ytdmmbkhnhfcmcaa
