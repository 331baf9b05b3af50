/- rule.missing,turns,May: walked. -/
import Derived.Test.YthigacbelefadaaDoorJnAE
namespace Go.Proofs.YthigacbelefadaaDoor
open Go.RowKit
set_option linter.unusedVariables false
set_option linter.unusedSimpArgs false
set_option maxRecDepth 100000
theorem get_yesA (w:World){u:Value}{l:List Att}{k:Int}{q:List Nat}(h:Ats w u l)(hk:AbOk (abs l))(hg:getA (abs l) k=some q):Calls Tryd.prog 41 [u,.int .i64 k].toArray w (RetO (fun v:Value=>.tuple #[v,.bool true]) (fun v oa=>OwnB 5 v q.length q oa) w):=
 get_yes w h hg (by
  have:=fitsB_le (hk.each _ ((getA_mem hk.nd).1 hg)).2.2
  dsimp only at this
  omega)
end Go.Proofs.YthigacbelefadaaDoor
