/- A block of one's own, seen in a world. -/
import Derived.Test.YtglbnbdeoenilaaLwH
import Derived.Test.YtglbnbdeoenilaaSl
namespace Go.Proofs.Ytglbnbdeoenilaa
open Go.RowKit
set_option linter.unusedVariables false
set_option linter.unusedSimpArgs false
theorem At.skipA {n : Nat} {x y : Array Value × TypeId} {r r' : Blks} (h : At r n x y r') : ∀ ob : Blks, At (ob ++ r) n x y (ob ++ r')
  | [] => h
  | _ :: o => .there (At.skipA h o)
theorem Inn.skipA {n : Nat} {x : Array Value × TypeId} {r : Blks} (h : Inn r n x) : ∀ ob : Blks, Inn (ob ++ r) n x
  | [] => h
  | _ :: o => .there (Inn.skipA h o)
theorem Has.sees {X : Cx} {l : Blks} {n : Nat} {c : Array Value} {e : Nat} {w : World} (hm : Mem X l w) (h : Inn l n (c, e) := by repeat (first | exact Inn.here | apply Inn.there | apply Inn.skipA)) : w.heap[n]? = some (.cells c e) := Has.inn h w hm
end Go.Proofs.Ytglbnbdeoenilaa
