/-
  Contracts of the small functions on numbers. Conditions: none beside those that each theorem names.
-/
import Derived.Test.YtpkhmbibemfhhaaBase
namespace Go.Proofs.Ytpkhmbibemfhhaa
open Go.RowKit

/-- x lies between lo and hi -/
def inB (x lo hi : Int) : Bool := decide (lo ≤ x ∧ x ≤ hi)
theorem inB_t {x lo hi : Int} (h1 : lo ≤ x) (h2 : x ≤ hi) : inB x lo hi = true := by simp [inB]; omega
theorem inB_f1 {x lo hi : Int} (h1 : ¬ lo ≤ x) : inB x lo hi = false := by simp [inB]; omega
theorem inB_f2 {x lo hi : Int} (h1 : ¬ x ≤ hi) : inB x lo hi = false := by simp [inB]; omega
theorem inB_iff {x lo hi : Int} : inB x lo hi = true ↔ lo ≤ x ∧ x ≤ hi := by simp [inB]

theorem impl_within (x lo hi : Int) (w : World) : Calls Try.prog 65 #[.int .i64 x, .int .i64 lo, .int .i64 hi] w fun e w' => e = .returned (.bool (inB x lo hi)) ∧ w = w' := by
  by_cases h1 : lo ≤ x
  · by_cases h2 : x ≤ hi
    · rw [inB_t h1 h2]
      go_enter Try.func65, Try.ntmps65
      go_wp2
      go_ret
      exact ⟨rfl, rfl⟩
    · rw [inB_f2 h2]
      go_enter Try.func65, Try.ntmps65
      go_wp2
      go_ret
      exact ⟨rfl, rfl⟩
  · rw [inB_f1 h1]
    go_enter Try.func65, Try.ntmps65
    go_wp2
    go_ret
    exact ⟨rfl, rfl⟩
theorem spec_l1In (x lo hi : Int) (w : World) : Calls Try.prog 78 #[.int .i64 x, .int .i64 lo, .int .i64 hi] w fun e w' => e = .returned (.bool (inB x lo hi)) ∧ w = w' := by
  by_cases h1 : lo ≤ x
  · by_cases h2 : x ≤ hi
    · rw [inB_t h1 h2]
      go_enter Try.func78, Try.ntmps78
      go_wp2
      go_ret
      exact ⟨rfl, rfl⟩
    · rw [inB_f2 h2]
      go_enter Try.func78, Try.ntmps78
      go_wp2
      go_ret
      exact ⟨rfl, rfl⟩
  · rw [inB_f1 h1]
    go_enter Try.func78, Try.ntmps78
    go_wp2
    go_ret
    exact ⟨rfl, rfl⟩
def freshM (x y : Int) : Bool := inB x 0 1000000 && inB y 0 1000000 && inB (wrap64 (x - y)) 0 10
theorem spec_Fresh (x y : Int) (w : World) : Calls Try.prog 24 #[.int .i64 x, .int .i64 y] w fun e w' => e = .returned (.bool (freshM x y)) ∧ w = w' := by
  go_enter Try.func24, Try.ntmps24
  go_wp2_with (go_at_call 78; refine (spec_l1In _ _ _ _).mono ?_; rintro e w' ⟨rfl, rfl⟩)
  all_goals
    go_ret
    refine ⟨?_, rfl⟩
    unfold freshM
    simp [*]
theorem impl_Fresh (x y : Int) (w : World) : Calls Try.prog 19 #[.int .i64 x, .int .i64 y] w fun e w' => e = .returned (.bool (freshM x y)) ∧ w = w' := by
  go_enter Try.func19, Try.ntmps19
  go_wp2_with (go_at_call 65; refine (impl_within _ _ _ _).mono ?_; rintro e w' ⟨rfl, rfl⟩)
  all_goals
    go_ret
    refine ⟨?_, rfl⟩
    unfold freshM
    simp [*]
theorem impl_PskOk (a : Option Addr) (n c : Nat) (w : World) : Calls Try.prog 38 #[.slice a n c] w fun e w' => e = .returned (.bool (inB n 1 32)) ∧ w = w' := by
  go_enter Try.func38, Try.ntmps38
  go_wp2_with (go_at_call 65; refine (impl_within _ _ _ _).mono ?_; rintro e w' ⟨rfl, rfl⟩)
  go_ret
  exact ⟨rfl, rfl⟩
theorem spec_PskOk (a : Option Addr) (n c : Nat) (w : World) : Calls Try.prog 114 #[.slice a n c] w fun e w' => e = .returned (.bool (inB n 1 32)) ∧ w = w' := by
  go_enter Try.func114, Try.ntmps114
  go_wp2_with (go_at_call 78; refine (spec_l1In _ _ _ _).mono ?_; rintro e w' ⟨rfl, rfl⟩)
  go_ret
  exact ⟨rfl, rfl⟩
theorem impl_JarOk (a : Option Addr) (n c : Nat) (w : World) : Calls Try.prog 14 #[.agg #[.slice a n c]] w fun e w' => e = .returned (.bool ((n : Int) == 32)) ∧ w.grownBy w' none := by
  go_enter Try.func14, Try.ntmps14
  go_wp2
  go_ret
  exact ⟨rfl, gb_alloc (gb_refl _) _⟩
theorem spec_JarOk (a : Option Addr) (n c : Nat) (w : World) : Calls Try.prog 62 #[.agg #[.slice a n c]] w fun e w' => e = .returned (.bool ((n : Int) == 32)) ∧ w.grownBy w' none := by
  go_enter Try.func62, Try.ntmps62
  go_wp2
  go_ret
  exact ⟨rfl, gb_alloc (gb_refl _) _⟩
theorem impl_DiceOk (a : Option Addr) (n c : Nat) (x : Int) (w : World) : Calls Try.prog 42 #[.agg #[.slice a n c, .int .i64 x]] w fun e w' => e = .returned (.bool (inB n 1 32 && inB x 0 10000)) ∧ w.grownBy w' none := by
  go_enter Try.func42, Try.ntmps42
  go_wp2_with (go_at_call 65; refine (impl_within _ _ _ _).mono ?_; rintro e w' ⟨rfl, rfl⟩)
  all_goals
    go_ret
    refine ⟨?_, gb_alloc (gb_refl _) _⟩
    simp [*]
theorem spec_DiceOk (a : Option Addr) (n c : Nat) (x : Int) (w : World) : Calls Try.prog 43 #[.agg #[.slice a n c, .int .i64 x]] w fun e w' => e = .returned (.bool (inB n 1 32 && inB x 0 10000)) ∧ w.grownBy w' none := by
  go_enter Try.func43, Try.ntmps43
  go_wp2_with (go_at_call 78; refine (spec_l1In _ _ _ _).mono ?_; rintro e w' ⟨rfl, rfl⟩)
  all_goals
    go_ret
    refine ⟨?_, gb_alloc (gb_refl _) _⟩
    simp [*]
end Go.Proofs.Ytpkhmbibemfhhaa
