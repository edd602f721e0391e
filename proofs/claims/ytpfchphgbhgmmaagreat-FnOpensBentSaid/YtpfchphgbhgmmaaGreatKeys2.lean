/-
  Contracts of jars and of nonces. Conditions: none beside those that each theorem names.
-/
import Derived.Test.YtpfchphgbhgmmaaGreatKeys
import Derived.Test.YtpfchphgbhgmmaaGreatHelpS
import Derived.Deep.RegionHeld3
import Derived.Lib.SmallJoins
namespace Go.Proofs.YtpfchphgbhgmmaaGreat
open Go.RowKit
end Go.Proofs.YtpfchphgbhgmmaaGreat
