/-
  Contracts of the functions on addresses and on a cookie's body. Conditions: none beside those that each theorem names.
-/
import Derived.Test.YtpfchphgbhgmmaaGreatHead
import Derived.Deep.RegionHeld3
namespace Go.Proofs.YtpfchphgbhgmmaaGreat
open Go.RowKit
def addrOkB (h p : Int) : Bool := inB h 0 4294967295 && inB p 0 65535
def addrM (l : List UInt8) (h p : Int) : List UInt8 := if addrOkB h p then l ++ be h.toNat 4 ++ be p.toNat 2 else l
theorem addrM_len (l : List UInt8) (h p : Int) : (addrM l h p).length ≤ l.length + 6 := by
  unfold addrM
  split
  · simp [be_len]
  · omega
def mintOk (h p id : Int) (cn sn : Nat) (tick : Int) : Bool := addrOkB h p && inB id 1 9 && ((cn : Int) == 12) && ((sn : Int) == 12) && inB tick 0 1000000
def mintM (h p id : Int) (cn sn : List UInt8) (tick : Int) : List UInt8 :=
  if mintOk h p id cn.length sn.length tick then addrM [99] h p ++ [b8 id] ++ cn ++ sn ++ be tick.toNat 4 else []
theorem mintM_len (h p id : Int) (cn sn : List UInt8) (tick : Int) : (mintM h p id cn sn tick).length ≤ 36 := by
  unfold mintM
  split
  · rename_i h9
    simp only [mintOk, Bool.and_eq_true, beq_iff_eq] at h9
    have := addrM_len [99] h p
    simp [be_len] at this ⊢
    omega
  · simp
end Go.Proofs.YtpfchphgbhgmmaaGreat
