/-
  Contracts of jars and of nonces. Conditions: none beside those that each theorem names.
-/
import Derived.Test.YteoglfclliclbaaGreatKeys
import Derived.Test.YteoglfclliclbaaGreatHelpS
import Derived.Deep.RegionHeld3
import Derived.Lib.SmallJoins
namespace Go.Proofs.YteoglfclliclbaaGreat
open Go.RowKit
end Go.Proofs.YteoglfclliclbaaGreat
