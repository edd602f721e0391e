/-
  Contracts of the two functions that add a number to a window. Conditions: none beside those that each theorem names.
-/
import Derived.Test.YtpfchphgbhgmmaaWin
import Derived.Test.YtpfchphgbhgmmaaWinC
import Derived.Deep.RegionHeld3
import Derived.RegionTactic
import Derived.ChangeAlike
namespace Go.Proofs.Ytpfchphgbhgmmaa
open Go.RowKit
def clearBit (l : List Int) (k : Nat) : List Int := l.set (k % 1024 / 32) (bits .andNot .i64 (l.getD (k % 1024 / 32) 0) (wrap64 (2 ^ (k % 32))))
def setBit (l : List Int) (k : Nat) : List Int := l.set (k % 1024 / 32) (bits .or .i64 (l.getD (k % 1024 / 32) 0) (wrap64 (2 ^ (k % 32))))
def clr (l : List Int) (a : Nat) : Nat → List Int
  | 0 => l
  | c + 1 => clearBit (clr l a c) (a + c)
theorem clr_len (l : List Int) (a : Nat) : ∀ c, (clr l a c).length = l.length
  | 0 => rfl
  | c + 1 => by rw [clr, clearBit, List.length_set, clr_len l a c]
theorem clr_step {l : List Int} {lo k : Nat} {x : Int} (hk : lo ≤ k) (hx : (clr l lo (k - lo))[k % 1024 / 32]? = some x) :
    clr l lo (k + 1 - lo) = (clr l lo (k - lo)).set (k % 1024 / 32) (bits .andNot .i64 x (wrap64 (2 ^ (k % 32)))) := by
  rw [show k + 1 - lo = (k - lo) + 1 by omega, clr, clearBit, show lo + (k - lo) = k by omega, List.getD_eq_getElem?_getD, hx]
  rfl
theorem setBit_of {l : List Int} {k : Nat} {x : Int} (hx : l[k % 1024 / 32]? = some x) : setBit l k = l.set (k % 1024 / 32) (bits .or .i64 x (wrap64 (2 ^ (k % 32)))) := by
  rw [setBit, List.getD_eq_getElem?_getD, hx]
  rfl
theorem ins_some {l : List Int} {j : Nat} {u : Value} (h : (ins l)[j]? = some u) : ∃ x, u = .int .i64 x ∧ l[j]? = some x := by
  simp only [ins, List.getElem?_map, Option.map_eq_some_iff] at h
  obtain ⟨x, h1, h2⟩ := h
  exact ⟨x, h2.symm, h1⟩
def addLo (f : WinM) (n : Int) : Nat := (max (f.top + 1) (n - 1024 + 1)).toNat
def winAddM (f : WinM) (n : Int) : WinM := if winMay f n then ⟨max f.top n, setBit (clr f.bits (addLo f n) (n.toNat - addLo f n)) n.toNat⟩ else f
end Go.Proofs.Ytpfchphgbhgmmaa
