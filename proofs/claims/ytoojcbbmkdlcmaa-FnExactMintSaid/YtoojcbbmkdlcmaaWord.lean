/-
  Contracts of the small functions on numbers. Conditions: none beside those that each theorem names.
-/
import Derived.Test.YtoojcbbmkdlcmaaBase
namespace Go.Proofs.Ytoojcbbmkdlcmaa
open Go.RowKit

/-- x lies between lo and hi -/
def inB (x lo hi : Int) : Bool := decide (lo ≤ x ∧ x ≤ hi)
theorem inB_t {x lo hi : Int} (h1 : lo ≤ x) (h2 : x ≤ hi) : inB x lo hi = true := by simp [inB]; omega
theorem inB_f1 {x lo hi : Int} (h1 : ¬ lo ≤ x) : inB x lo hi = false := by simp [inB]; omega
theorem inB_f2 {x lo hi : Int} (h1 : ¬ x ≤ hi) : inB x lo hi = false := by simp [inB]; omega
theorem inB_iff {x lo hi : Int} : inB x lo hi = true ↔ lo ≤ x ∧ x ≤ hi := by simp [inB]

theorem impl_within (x lo hi : Int) (w : World) : Calls Try.prog 48 #[.int .i64 x, .int .i64 lo, .int .i64 hi] w fun e w' => e = .returned (.bool (inB x lo hi)) ∧ w = w' := by
  by_cases h1 : lo ≤ x
  · by_cases h2 : x ≤ hi
    · rw [inB_t h1 h2]
      go_enter Try.func48, Try.ntmps48
      go_wp2
      go_ret
      exact ⟨rfl, rfl⟩
    · rw [inB_f2 h2]
      go_enter Try.func48, Try.ntmps48
      go_wp2
      go_ret
      exact ⟨rfl, rfl⟩
  · rw [inB_f1 h1]
    go_enter Try.func48, Try.ntmps48
    go_wp2
    go_ret
    exact ⟨rfl, rfl⟩
theorem spec_l1In (x lo hi : Int) (w : World) : Calls Try.prog 45 #[.int .i64 x, .int .i64 lo, .int .i64 hi] w fun e w' => e = .returned (.bool (inB x lo hi)) ∧ w = w' := by
  by_cases h1 : lo ≤ x
  · by_cases h2 : x ≤ hi
    · rw [inB_t h1 h2]
      go_enter Try.func45, Try.ntmps45
      go_wp2
      go_ret
      exact ⟨rfl, rfl⟩
    · rw [inB_f2 h2]
      go_enter Try.func45, Try.ntmps45
      go_wp2
      go_ret
      exact ⟨rfl, rfl⟩
  · rw [inB_f1 h1]
    go_enter Try.func45, Try.ntmps45
    go_wp2
    go_ret
    exact ⟨rfl, rfl⟩
theorem impl_PskOk (a : Option Addr) (n c : Nat) (w : World) : Calls Try.prog 54 #[.slice a n c] w fun e w' => e = .returned (.bool (inB n 1 32)) ∧ w = w' := by
  go_enter Try.func54, Try.ntmps54
  go_wp2_with (go_at_call 48; refine (impl_within _ _ _ _).mono ?_; rintro e w' ⟨rfl, rfl⟩)
  go_ret
  exact ⟨rfl, rfl⟩
theorem spec_PskOk (a : Option Addr) (n c : Nat) (w : World) : Calls Try.prog 52 #[.slice a n c] w fun e w' => e = .returned (.bool (inB n 1 32)) ∧ w = w' := by
  go_enter Try.func52, Try.ntmps52
  go_wp2_with (go_at_call 45; refine (spec_l1In _ _ _ _).mono ?_; rintro e w' ⟨rfl, rfl⟩)
  go_ret
  exact ⟨rfl, rfl⟩
theorem impl_JarOk (a : Option Addr) (n c : Nat) (w : World) : Calls Try.prog 71 #[.agg #[.slice a n c]] w fun e w' => e = .returned (.bool ((n : Int) == 32)) ∧ w.grownBy w' none := by
  go_enter Try.func71, Try.ntmps71
  go_wp2
  go_ret
  exact ⟨rfl, gb_alloc (gb_refl _) _⟩
theorem spec_JarOk (a : Option Addr) (n c : Nat) (w : World) : Calls Try.prog 69 #[.agg #[.slice a n c]] w fun e w' => e = .returned (.bool ((n : Int) == 32)) ∧ w.grownBy w' none := by
  go_enter Try.func69, Try.ntmps69
  go_wp2
  go_ret
  exact ⟨rfl, gb_alloc (gb_refl _) _⟩
theorem impl_DiceOk (a : Option Addr) (n c : Nat) (x : Int) (w : World) : Calls Try.prog 63 #[.agg #[.slice a n c, .int .i64 x]] w fun e w' => e = .returned (.bool (inB n 1 32 && inB x 0 10000)) ∧ w.grownBy w' none := by
  go_enter Try.func63, Try.ntmps63
  go_wp2_with (go_at_call 48; refine (impl_within _ _ _ _).mono ?_; rintro e w' ⟨rfl, rfl⟩)
  all_goals
    go_ret
    refine ⟨?_, gb_alloc (gb_refl _) _⟩
    simp [*]
theorem spec_DiceOk (a : Option Addr) (n c : Nat) (x : Int) (w : World) : Calls Try.prog 62 #[.agg #[.slice a n c, .int .i64 x]] w fun e w' => e = .returned (.bool (inB n 1 32 && inB x 0 10000)) ∧ w.grownBy w' none := by
  go_enter Try.func62, Try.ntmps62
  go_wp2_with (go_at_call 45; refine (spec_l1In _ _ _ _).mono ?_; rintro e w' ⟨rfl, rfl⟩)
  all_goals
    go_ret
    refine ⟨?_, gb_alloc (gb_refl _) _⟩
    simp [*]
end Go.Proofs.Ytoojcbbmkdlcmaa
