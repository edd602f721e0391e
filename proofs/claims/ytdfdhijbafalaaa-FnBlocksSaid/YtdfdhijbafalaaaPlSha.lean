/-
  Plain laws on the sum of a block: what two blocks compress to; the first words of a schedule. Conditions: none beside those that each theorem names.
-/
import Derived.Test.YtdfdhijbafalaaaShaP
namespace Go.Proofs.Ytdfdhijbafalaaa
open Go.RowKit
theorem sha_block {b : List UInt8} (hb : b.length = 64) : shaM b = outB (compM (compM startL b) (padM 64)) := by
  have hp : (padM 64).length = 64 := by rw [padM_len]; rfl
  rw [shaM, if_pos (by omega), shaL, hb, show (b ++ padM 64).length / 64 = 2 by rw [List.length_append, hb, hp]]
  simp only [cTo, Nat.mul_zero, List.drop_zero, Nat.mul_one]
  rw [List.take_append_of_le_length (by omega), List.take_of_length_le (by omega), List.drop_append, List.drop_of_length_le (by omega), hb]
  simp only [List.nil_append, Nat.sub_self, List.drop_zero]
  rw [List.take_of_length_le (by omega)]
theorem sched_at (b : List UInt8) {i : Nat} (hi : i < 16) : ∀ k, i < k → (schedL b k)[i]? = some (w4 b i)
  | 0, h => by omega
  | k + 1, h => by
    rw [schedL]
    by_cases e : i < k
    · rw [List.getElem?_append_left (by rw [schedL_len]; exact e)]
      exact sched_at b hi k e
    · obtain rfl : i = k := by omega
      rw [List.getElem?_append_right (by rw [schedL_len]; exact Nat.le_refl _), schedL_len, Nat.sub_self, if_pos hi]
      rfl
end Go.Proofs.Ytdfdhijbafalaaa
