/-
  Plain facts on windows of 1024 numbers, kept in 32 words of 32 bits. Conditions: none beside those that each theorem names.
-/
import Derived.Test.YtpfchphgbhgmmaaGreatHelpS
import Derived.Test.YtpfchphgbhgmmaaGreatWord
import Derived.Test.YtpfchphgbhgmmaaGreatBitP
namespace Go.Proofs.YtpfchphgbhgmmaaGreat
open Go.RowKit

/-- is the bit of n set -/
def winBit (l : List Int) (n : Nat) : Bool := (l.getD (n % 1024 / 32) 0).toNat.testBit (n % 32)
def areW (l : List Int) (n : Nat) : Bool := l.all (fun x => inB x 0 4294967295) && l.length == n
def noneAbove (f : WinM) : Bool := (List.range 1024).all fun n => decide ((n : Int) ≤ f.top) || !winBit f.bits n
def topBit (f : WinM) : Bool := f.top == -1 || winBit f.bits f.top.toNat
def winOk (f : WinM) : Bool := inB f.top (-1) 281474976710655 && areW f.bits 32 && noneAbove f && topBit f

theorem bit_of_word (x : Int) (k : Nat) (h0 : 0 ≤ x) (h1 : x ≤ 4294967295) : (bits .and .i64 (x / 2 ^ k) 1 == 1) = x.toNat.testBit k := by
  obtain ⟨m, rfl⟩ := Int.eq_ofNat_of_zero_le h0
  have e : ((m : Int) / 2 ^ k) = ((m / 2 ^ k : Nat) : Int) := by simp
  have hm : m < 2 ^ 63 := by omega
  have hd : m / 2 ^ k < 2 ^ 63 := Nat.lt_of_le_of_lt (Nat.div_le_self _ _) hm
  rw [e, show (1 : Int) = ((1 : Nat) : Int) from rfl, i64_and _ _ hd (by decide), Int.toNat_natCast, Nat.testBit_eq_decide_div_mod_eq, Nat.and_one_is_mod]
  rw [Bool.eq_iff_iff]
  simp
  omega

theorem areW_of {l : List Int} {n : Nat} (h : areW l n = true) : l.length = n ∧ ∀ x ∈ l, 0 ≤ x ∧ x ≤ 4294967295 := by
  simp only [areW, Bool.and_eq_true, List.all_eq_true, beq_iff_eq, inB_iff] at h
  exact ⟨h.2, h.1⟩
theorem winBit_at {l : List Int} {n : Nat} {x : Int} (h : areW l 32 = true) (hx : l[n % 1024 / 32]? = some x) : winBit l n = (bits .and .i64 (x / 2 ^ (n % 32)) 1 == 1) := by
  have hm := (areW_of h).2 x (List.mem_of_getElem? hx)
  rw [bit_of_word x _ hm.1 hm.2, winBit, List.getD_eq_getElem?_getD, hx]
  rfl

theorem noneAbove_iff {f : WinM} : noneAbove f = true ↔ ∀ n : Nat, n < 1024 → f.top < n → winBit f.bits n = false := by
  simp only [noneAbove, List.all_eq_true, List.mem_range, Bool.or_eq_true, decide_eq_true_eq, Bool.not_eq_true']
  exact ⟨fun h n h1 h2 => (h n h1).resolve_left (by omega), fun h n h1 => by
    by_cases h2 : f.top < n
    · exact .inr (h n h1 h2)
    · exact .inl (by omega)⟩
end Go.Proofs.YtpfchphgbhgmmaaGreat
