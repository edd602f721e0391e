/-
  Contracts of the small functions on numbers. Conditions: none beside those that each theorem names.
-/
import Derived.Test.YtjdaafemfpafdaaBase
namespace Go.Proofs.Ytjdaafemfpafdaa
open Go.RowKit

/-- x lies between lo and hi -/
def inB (x lo hi : Int) : Bool := decide (lo ≤ x ∧ x ≤ hi)
theorem inB_t {x lo hi : Int} (h1 : lo ≤ x) (h2 : x ≤ hi) : inB x lo hi = true := by simp [inB]; omega
theorem inB_f1 {x lo hi : Int} (h1 : ¬ lo ≤ x) : inB x lo hi = false := by simp [inB]; omega
theorem inB_f2 {x lo hi : Int} (h1 : ¬ x ≤ hi) : inB x lo hi = false := by simp [inB]; omega
theorem inB_iff {x lo hi : Int} : inB x lo hi = true ↔ lo ≤ x ∧ x ≤ hi := by simp [inB]

theorem impl_within (x lo hi : Int) (w : World) : Calls Try.prog 40 #[.int .i64 x, .int .i64 lo, .int .i64 hi] w fun e w' => e = .returned (.bool (inB x lo hi)) ∧ w = w' := by
  by_cases h1 : lo ≤ x
  · by_cases h2 : x ≤ hi
    · rw [inB_t h1 h2]
      go_enter Try.func40, Try.ntmps40
      go_wp2
      go_ret
      exact ⟨rfl, rfl⟩
    · rw [inB_f2 h2]
      go_enter Try.func40, Try.ntmps40
      go_wp2
      go_ret
      exact ⟨rfl, rfl⟩
  · rw [inB_f1 h1]
    go_enter Try.func40, Try.ntmps40
    go_wp2
    go_ret
    exact ⟨rfl, rfl⟩
theorem spec_l1In (x lo hi : Int) (w : World) : Calls Try.prog 53 #[.int .i64 x, .int .i64 lo, .int .i64 hi] w fun e w' => e = .returned (.bool (inB x lo hi)) ∧ w = w' := by
  by_cases h1 : lo ≤ x
  · by_cases h2 : x ≤ hi
    · rw [inB_t h1 h2]
      go_enter Try.func53, Try.ntmps53
      go_wp2
      go_ret
      exact ⟨rfl, rfl⟩
    · rw [inB_f2 h2]
      go_enter Try.func53, Try.ntmps53
      go_wp2
      go_ret
      exact ⟨rfl, rfl⟩
  · rw [inB_f1 h1]
    go_enter Try.func53, Try.ntmps53
    go_wp2
    go_ret
    exact ⟨rfl, rfl⟩
def freshM (x y : Int) : Bool := inB x 0 1000000 && inB y 0 1000000 && inB (wrap64 (x - y)) 0 10
theorem spec_Fresh (x y : Int) (w : World) : Calls Try.prog 21 #[.int .i64 x, .int .i64 y] w fun e w' => e = .returned (.bool (freshM x y)) ∧ w = w' := by
  go_enter Try.func21, Try.ntmps21
  go_wp2_with (go_at_call 53; refine (spec_l1In _ _ _ _).mono ?_; rintro e w' ⟨rfl, rfl⟩)
  all_goals
    go_ret
    refine ⟨?_, rfl⟩
    unfold freshM
    simp [*]
theorem impl_Fresh (x y : Int) (w : World) : Calls Try.prog 16 #[.int .i64 x, .int .i64 y] w fun e w' => e = .returned (.bool (freshM x y)) ∧ w = w' := by
  go_enter Try.func16, Try.ntmps16
  go_wp2_with (go_at_call 40; refine (impl_within _ _ _ _).mono ?_; rintro e w' ⟨rfl, rfl⟩)
  all_goals
    go_ret
    refine ⟨?_, rfl⟩
    unfold freshM
    simp [*]
theorem impl_JarOk (a : Option Addr) (n c : Nat) (w : World) : Calls Try.prog 11 #[.agg #[.slice a n c]] w fun e w' => e = .returned (.bool ((n : Int) == 32)) ∧ w.grownBy w' none := by
  go_enter Try.func11, Try.ntmps11
  go_wp2
  go_ret
  exact ⟨rfl, gb_alloc (gb_refl _) _⟩
theorem spec_JarOk (a : Option Addr) (n c : Nat) (w : World) : Calls Try.prog 37 #[.agg #[.slice a n c]] w fun e w' => e = .returned (.bool ((n : Int) == 32)) ∧ w.grownBy w' none := by
  go_enter Try.func37, Try.ntmps37
  go_wp2
  go_ret
  exact ⟨rfl, gb_alloc (gb_refl _) _⟩
end Go.Proofs.Ytjdaafemfpafdaa
