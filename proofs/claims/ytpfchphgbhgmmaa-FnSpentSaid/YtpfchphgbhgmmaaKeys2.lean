/-
  Contracts of jars and of nonces. Conditions: none beside those that each theorem names.
-/
import Derived.Test.YtpfchphgbhgmmaaKeys
import Derived.Test.YtpfchphgbhgmmaaHelpS
import Derived.Deep.RegionHeld3
import Derived.Lib.SmallJoins
namespace Go.Proofs.Ytpfchphgbhgmmaa
open Go.RowKit
end Go.Proofs.Ytpfchphgbhgmmaa
