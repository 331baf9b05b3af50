/- The package hash, walked: turning, words. -/
import Derived.Test.YtglbnbdeoenilaaShaPlain
import Derived.Test.YtglbnbdeoenilaaLwH
import Derived.Test.YtglbnbdeoenilaaTyS
import Derived.Test.YtglbnbdeoenilaaInts
namespace Go.Proofs.Ytglbnbdeoenilaa
open Go.RowKit
set_option linter.unusedVariables false
set_option linter.unusedSimpArgs false
set_option maxRecDepth 100000
end Go.Proofs.Ytglbnbdeoenilaa
