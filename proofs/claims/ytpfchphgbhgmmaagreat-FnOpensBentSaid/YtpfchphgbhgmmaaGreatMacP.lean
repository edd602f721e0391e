/-
  Keyed hashes and derived keys in plain words. Conditions: none beside those that each theorem names.
-/
import Derived.Test.YtpfchphgbhgmmaaGreatShaP
namespace Go.Proofs.YtpfchphgbhgmmaaGreat
open Go.RowKit
/-- the hash, opaque to the laws above it -/
def shaB (l : List UInt8) : List UInt8 := shaM l
theorem shaM_len {l : List UInt8} (h : l.length ≤ 1048576) : (shaM l).length = 32 := by rw [shaM, if_pos h, shaL_len]
def bkM (key : List UInt8) : List UInt8 := if key.length > 64 then shaM key ++ List.replicate 32 0 else key ++ List.replicate (64 - key.length) 0
theorem bkM_len {key : List UInt8} (h : key.length ≤ 1048576) : (bkM key).length = 64 := by
  unfold bkM
  split
  · rw [List.length_append, shaM_len h, List.length_replicate]
  · simp
    omega
def xorB (x : UInt8) (l : List UInt8) : List UInt8 := l.map fun y => y ^^^ x
theorem xorB_len (x : UInt8) (l : List UInt8) : (xorB x l).length = l.length := by simp [xorB]
def hmacL (key b : List UInt8) : List UInt8 := shaM (xorB 92 (bkM key) ++ shaM (xorB 54 (bkM key) ++ b))
def hmacM (key b : List UInt8) : List UInt8 := if key.length ≤ 1048576 ∧ b.length ≤ 1048512 then hmacL key b else []
theorem hmacL_len (key b : List UInt8) (h : key.length ≤ 1048576) : (hmacL key b).length = 32 := by
  refine shaM_len ?_
  have := shaM_le (xorB 54 (bkM key) ++ b)
  rw [List.length_append, xorB_len, bkM_len h]
  omega
theorem hmacM_len {key b : List UInt8} (h : key.length ≤ 1048576) (h2 : b.length ≤ 1048512) : (hmacM key b).length = 32 := by
  rw [hmacM, if_pos ⟨h, h2⟩, hmacL_len key b h]
theorem hmacM_le (key b : List UInt8) : (hmacM key b).length ≤ 32 := by
  unfold hmacM
  split
  · rename_i h
    rw [hmacL_len key b h.1]
    exact Nat.le_refl _
  · simp
theorem hmacM_cases (key b : List UInt8) : hmacM key b = [] ∨ (hmacM key b).length = 32 := by
  unfold hmacM
  split
  · rename_i h
    exact .inr (hmacL_len key b h.1)
  · exact .inl rfl
def tagM (key b : List UInt8) : List UInt8 := (hmacM key b).take 16
theorem tagM_le (key b : List UInt8) : (tagM key b).length ≤ 16 := List.length_take_le _ _
def derM (key label : List UInt8) : List UInt8 := if key.length ≤ 1048576 ∧ label.length ≤ 100 then hmacM key (label ++ [1]) else []
theorem derM_le (key label : List UInt8) : (derM key label).length ≤ 32 := by
  unfold derM
  split
  · exact hmacM_le _ _
  · simp
theorem derM_len {key label : List UInt8} (h : key.length ≤ 1048576) (h2 : label.length ≤ 100) : (derM key label).length = 32 := by
  rw [derM, if_pos ⟨h, h2⟩]
  exact hmacM_len h (by simp; omega)
def lJar : List UInt8 := [106, 97, 114]
def lFin : List UInt8 := [102, 105, 110, 105, 115, 104]
def lEp : List UInt8 := [101, 112, 111, 99, 104]
def lRe : List UInt8 := [114, 101, 107, 101, 121]
def lRoam : List UInt8 := [114, 111, 97, 109]
def lRoll : List UInt8 := [114, 111, 108, 108]
def chL (key : List UInt8) : Nat → List UInt8
  | 0 => key
  | n + 1 => derM (chL key n) lRe
theorem chL_le {key : List UInt8} (h : key.length ≤ 1048576) : ∀ n, (chL key n).length ≤ 1048576
  | 0 => h
  | _ + 1 => Nat.le_trans (derM_le _ _) (by decide)
def chainM (key : List UInt8) (n : Int) : List UInt8 := if 0 ≤ n ∧ n ≤ 64 then chL key n.toNat else []
def rootOk (psk cn sn : Nat) : Bool := decide (1 ≤ psk) && decide (psk ≤ 32) && decide (cn = 12) && decide (sn = 12)
def rootM (psk cn sn : List UInt8) : List UInt8 := if rootOk psk.length cn.length sn.length then hmacM (cn ++ sn) psk else []
def firstM (root : List UInt8) : List UInt8 := if root.length = 32 then derM root lEp else []
def finM (psk : List UInt8) : List UInt8 := if 1 ≤ psk.length ∧ psk.length ≤ 32 then derM (hmacM lRoam psk) lFin else []
def epKeyM (psk cn sn : List UInt8) (n : Int) : List UInt8 := if (firstM (rootM psk cn sn)).length = 0 then [] else chainM (firstM (rootM psk cn sn)) n
def diceAtM (seed : List UInt8) (n : Int) : List UInt8 := if (1 ≤ seed.length ∧ seed.length ≤ 32) ∧ 0 ≤ n ∧ n ≤ 10000 then (hmacM seed (lRoll ++ be n.toNat 4)).take 12 else []
def jarM (roll : List UInt8) : List UInt8 := if roll.length = 12 then derM roll lJar else []
theorem rootM_le (psk cn sn : List UInt8) : (rootM psk cn sn).length ≤ 32 := by
  unfold rootM
  split
  · exact hmacM_le _ _
  · simp
theorem firstM_le (r : List UInt8) : (firstM r).length ≤ 32 := by
  unfold firstM
  split
  · exact derM_le _ _
  · simp
theorem finM_le (r : List UInt8) : (finM r).length ≤ 32 := by
  unfold finM
  split
  · exact derM_le _ _
  · simp
theorem jarM_le (r : List UInt8) : (jarM r).length ≤ 32 := by
  unfold jarM
  split
  · exact derM_le _ _
  · simp
theorem diceAtM_le (s : List UInt8) (n : Int) : (diceAtM s n).length ≤ 12 := by
  unfold diceAtM
  split
  · exact List.length_take_le _ _
  · simp
theorem chL_le32 {key : List UInt8} (h : key.length ≤ 32) : ∀ n, (chL key n).length ≤ 32
  | 0 => h
  | _ + 1 => derM_le _ _
theorem epKeyM_le (psk cn sn : List UInt8) (n : Int) : (epKeyM psk cn sn n).length ≤ 32 := by
  unfold epKeyM chainM
  split
  · simp
  · split
    · exact chL_le32 (firstM_le _) _
    · simp
end Go.Proofs.YtpfchphgbhgmmaaGreat
