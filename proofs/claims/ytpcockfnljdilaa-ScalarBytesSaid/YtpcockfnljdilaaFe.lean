/- The contracts of field, in the words fadd, fmul, fsub, flow. -/
import Derived.Test.YtpcockfnljdilaaFePlain
import Derived.Test.YtpcockfnljdilaaFieldMul
namespace Go.Proofs.Ytpcockfnljdilaa
open Go.RowKit
set_option linter.unusedVariables false
end Go.Proofs.Ytpcockfnljdilaa
