/-
  Contracts of the small functions on numbers. Conditions: none beside those that each theorem names.
-/
import Derived.Test.YtpkjlhooiaedmaaBase
namespace Go.Proofs.Ytpkjlhooiaedmaa
open Go.RowKit

/-- x lies between lo and hi -/
def inB (x lo hi : Int) : Bool := decide (lo ≤ x ∧ x ≤ hi)
theorem inB_t {x lo hi : Int} (h1 : lo ≤ x) (h2 : x ≤ hi) : inB x lo hi = true := by simp [inB]; omega
theorem inB_f1 {x lo hi : Int} (h1 : ¬ lo ≤ x) : inB x lo hi = false := by simp [inB]; omega
theorem inB_f2 {x lo hi : Int} (h1 : ¬ x ≤ hi) : inB x lo hi = false := by simp [inB]; omega
theorem inB_iff {x lo hi : Int} : inB x lo hi = true ↔ lo ≤ x ∧ x ≤ hi := by simp [inB]

theorem impl_within (x lo hi : Int) (w : World) : Calls Try.prog 46 #[.int .i64 x, .int .i64 lo, .int .i64 hi] w fun e w' => e = .returned (.bool (inB x lo hi)) ∧ w = w' := by
  by_cases h1 : lo ≤ x
  · by_cases h2 : x ≤ hi
    · rw [inB_t h1 h2]
      go_enter Try.func46, Try.ntmps46
      go_wp2
      go_ret
      exact ⟨rfl, rfl⟩
    · rw [inB_f2 h2]
      go_enter Try.func46, Try.ntmps46
      go_wp2
      go_ret
      exact ⟨rfl, rfl⟩
  · rw [inB_f1 h1]
    go_enter Try.func46, Try.ntmps46
    go_wp2
    go_ret
    exact ⟨rfl, rfl⟩
theorem spec_l1In (x lo hi : Int) (w : World) : Calls Try.prog 50 #[.int .i64 x, .int .i64 lo, .int .i64 hi] w fun e w' => e = .returned (.bool (inB x lo hi)) ∧ w = w' := by
  by_cases h1 : lo ≤ x
  · by_cases h2 : x ≤ hi
    · rw [inB_t h1 h2]
      go_enter Try.func50, Try.ntmps50
      go_wp2
      go_ret
      exact ⟨rfl, rfl⟩
    · rw [inB_f2 h2]
      go_enter Try.func50, Try.ntmps50
      go_wp2
      go_ret
      exact ⟨rfl, rfl⟩
  · rw [inB_f1 h1]
    go_enter Try.func50, Try.ntmps50
    go_wp2
    go_ret
    exact ⟨rfl, rfl⟩
theorem impl_DiceOk (a : Option Addr) (n c : Nat) (x : Int) (w : World) : Calls Try.prog 60 #[.agg #[.slice a n c, .int .i64 x]] w fun e w' => e = .returned (.bool (inB n 1 32 && inB x 0 10000)) ∧ w.grownBy w' none := by
  go_enter Try.func60, Try.ntmps60
  go_wp2_with (go_at_call 46; refine (impl_within _ _ _ _).mono ?_; rintro e w' ⟨rfl, rfl⟩)
  all_goals
    go_ret
    refine ⟨?_, gb_alloc (gb_refl _) _⟩
    simp [*]
theorem spec_DiceOk (a : Option Addr) (n c : Nat) (x : Int) (w : World) : Calls Try.prog 58 #[.agg #[.slice a n c, .int .i64 x]] w fun e w' => e = .returned (.bool (inB n 1 32 && inB x 0 10000)) ∧ w.grownBy w' none := by
  go_enter Try.func58, Try.ntmps58
  go_wp2_with (go_at_call 50; refine (spec_l1In _ _ _ _).mono ?_; rintro e w' ⟨rfl, rfl⟩)
  all_goals
    go_ret
    refine ⟨?_, gb_alloc (gb_refl _) _⟩
    simp [*]
end Go.Proofs.Ytpkjlhooiaedmaa
