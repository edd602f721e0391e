/-
  Contracts of the two makers of an empty window. Conditions: none.
-/
import Derived.Test.YteoglfclliclbaaGreatHelpS
import Derived.Test.YteoglfclliclbaaGreatBitP
namespace Go.Proofs.YteoglfclliclbaaGreat
open Go.RowKit
def winNew : WinM := ⟨-1, List.replicate 32 0⟩
end Go.Proofs.YteoglfclliclbaaGreat
