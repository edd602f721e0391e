/-
  Contracts of the two makers of an empty window. Conditions: none.
-/
import Derived.Test.YtfjbfgonkimboaaHelpS
import Derived.Test.YtfjbfgonkimboaaBitP
namespace Go.Proofs.Ytfjbfgonkimboaa
open Go.RowKit
def winNew : WinM := ⟨-1, List.replicate 32 0⟩
end Go.Proofs.Ytfjbfgonkimboaa
