/-
  Contracts of the functions that compare and check frames. Conditions: none beside those that each theorem names.
-/
import Derived.Test.YtdfdhijbafalaaaHead
import Derived.Test.YtdfdhijbafalaaaStr
import Derived.Test.YtdfdhijbafalaaaHelpS
import Derived.BigRegion
namespace Go.Proofs.Ytdfdhijbafalaaa
open Go.RowKit
def sealedB (k : Int) : Bool := inB k 4 8
def bodyB (k : Int) (n : Nat) : Bool := if k = 4 then decide (n ≤ 40) else if k = 5 ∨ k = 6 then ((n : Int) == 12) else ((n : Int) == 4)
theorem le40 (n : Nat) : decide ((n : Int) ≤ 40) = decide (n ≤ 40) := by rw [decide_eq_decide]; omega
def eqI (a b : Int) : Bool := a == b
def eqN (n : Nat) (b : Int) : Bool := (n : Int) == b
theorem eqI_iff {a b : Int} : eqI a b = true ↔ a = b := by simp [eqI]
theorem eqN_iff {n m : Nat} : eqN n (m : Int) = true ↔ n = m := by
  simp [eqN]
  omega
def frEq (f g : FrameM) : Bool := eqI f.kind g.kind && eqI f.id g.id && eqI f.tick g.tick && eqI f.epoch g.epoch && eqI f.seq g.seq && eqL f.cn g.cn && eqL f.sn g.sn && eqL f.cookie g.cookie && eqL f.proof g.proof && eqL f.body g.body && eqL f.tag g.tag
end Go.Proofs.Ytdfdhijbafalaaa
