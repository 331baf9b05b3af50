/- hash.Pad, walked. -/
import Derived.Test.YtglbnbdeoenilaaPadPlain
import Derived.Test.YtglbnbdeoenilaaOwnB
import Derived.Test.YtglbnbdeoenilaaInts
import Derived.Test.YtglbnbdeoenilaaTyS
namespace Go.Proofs.Ytglbnbdeoenilaa
open Go.RowKit
set_option linter.unusedVariables false
set_option maxRecDepth 100000
set_option linter.unusedSimpArgs false
end Go.Proofs.Ytglbnbdeoenilaa
