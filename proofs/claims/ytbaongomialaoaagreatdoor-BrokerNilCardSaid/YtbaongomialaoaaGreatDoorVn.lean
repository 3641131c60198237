/- The machine runs the function awake to true. -/
import Derived.Test.YtbaongomialaoaaGreatDoorVf
import Derived.Test.YtbaongomialaoaaGreatDoorSb
namespace Go.Arb
set_option maxRecDepth 100000
open Go Go.Lib Go.Proofs
theorem main5 : vfact Tryz.prog (cfg19.kf all4) 2000 5 [] (.b true) = true := by kernel_rfl
end Go.Arb
