/- curve.d, Zero, Base, quadOf, plus, point, On, Neg, Add. -/
import Derived.Test.YtpcockfnljdilaaRow
import Derived.Test.YtpcockfnljdilaaCurvePlain
import Derived.Test.YtpcockfnljdilaaFpow
namespace Go.Proofs.Ytpcockfnljdilaa
open Go.RowKit
set_option maxRecDepth 100000
set_option linter.unusedVariables false
set_option linter.unusedSimpArgs false
set_option maxRecDepth 8000
abbrev pv (p : Pt) : Value := ro [p.x, p.y]
abbrev qv (q : Qd) : Value := ro [q.x, q.y, q.z, q.t]
theorem four_val (a b c d n : Nat) (h0 : limb n 0 = (a : Int)) (h1 : limb n 1 = (b : Int)) (h2 : limb n 2 = (c : Int)) (h3 : limb n 3 = (d : Int)) : Value.agg [.int .u64 a, .int .u64 b, .int .u64 c, .int .u64 d].toArray = nu n := by
  rw [← nu_num, num, h0, h1, h2, h3]
theorem DD_val : Value.agg [.int .u64 8496970652267935907, .int .u64 31536524315187371, .int .u64 10144147576115030168, .int .u64 5909686906226998899].toArray = nu DD := four_val 8496970652267935907 31536524315187371 10144147576115030168 5909686906226998899 DD (by decide +kernel) (by decide +kernel) (by decide +kernel) (by decide +kernel)
theorem BX_val : Value.agg [.int .u64 14507833142362363162, .int .u64 7578651490590762930, .int .u64 13881468655802702940, .int .u64 2407515759118799870].toArray = nu BX := four_val 14507833142362363162 7578651490590762930 13881468655802702940 2407515759118799870 BX (by decide +kernel) (by decide +kernel) (by decide +kernel) (by decide +kernel)
theorem BY_val : Value.agg [.int .u64 7378697629483820632, .int .u64 7378697629483820646, .int .u64 7378697629483820646, .int .u64 7378697629483820646].toArray = nu BY := four_val 7378697629483820632 7378697629483820646 7378697629483820646 7378697629483820646 BY (by decide +kernel) (by decide +kernel) (by decide +kernel) (by decide +kernel)
end Go.Proofs.Ytpcockfnljdilaa
