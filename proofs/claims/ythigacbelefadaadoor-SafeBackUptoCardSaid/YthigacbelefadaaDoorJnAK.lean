/- A struct built of nothing. -/
import Derived.Test.YthigacbelefadaaDoorJnAB
namespace Go.Proofs.YthigacbelefadaaDoor
open Go.RowKit
section
variable {X:Cx}{s:Slots}{l:Blks}{o:Oper}
theorem rd_buildZ {t:Nat}{ps:Array (Nat×Operand)}{pl:List (Nat×Nat)}{g0:Sg}(ho:o.op=.build t ps)(hx:valsP s ps.toList=some [])[ht:SP X.P t pl][hz:ZG X.P t g0]:RdV X s l o (.agg (rwA g0)):=
 rd_buildH (vs:=[]) ho hx (hc:=rfl) (hg:=rfl) (h1:=fun p hp=>by cases hp) (h2:=fun p hp=>by cases hp)
end
end Go.Proofs.YthigacbelefadaaDoor
