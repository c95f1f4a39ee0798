/- The law helpers over []int: toIntS, eqIntS, szIntS, markIntS, heldIntS. -/
import Derived.Test.YtigepcpmdhcenaaRows
import Derived.Test.YtigepcpmdhcenaaSl
namespace Go.Proofs.Ytigepcpmdhcenaa
open Go.RowKit
set_option linter.unusedVariables false

end Go.Proofs.Ytigepcpmdhcenaa
