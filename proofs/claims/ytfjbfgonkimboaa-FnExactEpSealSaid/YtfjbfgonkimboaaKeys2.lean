/-
  Contracts of jars and of nonces. Conditions: none beside those that each theorem names.
-/
import Derived.Test.YtfjbfgonkimboaaKeys
import Derived.Test.YtfjbfgonkimboaaHelpS
import Derived.Deep.RegionHeld3
import Derived.Lib.SmallJoins
namespace Go.Proofs.Ytfjbfgonkimboaa
open Go.RowKit
end Go.Proofs.Ytfjbfgonkimboaa
