/-
  Contracts of the small functions on numbers. Conditions: none beside those that each theorem names.
-/
import Derived.Test.YtgdhciebmcpkaaaBase
namespace Go.Proofs.Ytgdhciebmcpkaaa
open Go.RowKit

/-- x lies between lo and hi -/
def inB (x lo hi : Int) : Bool := decide (lo ≤ x ∧ x ≤ hi)
theorem inB_t {x lo hi : Int} (h1 : lo ≤ x) (h2 : x ≤ hi) : inB x lo hi = true := by simp [inB]; omega
theorem inB_f1 {x lo hi : Int} (h1 : ¬ lo ≤ x) : inB x lo hi = false := by simp [inB]; omega
theorem inB_f2 {x lo hi : Int} (h1 : ¬ x ≤ hi) : inB x lo hi = false := by simp [inB]; omega
theorem inB_iff {x lo hi : Int} : inB x lo hi = true ↔ lo ≤ x ∧ x ≤ hi := by simp [inB]

theorem impl_within (x lo hi : Int) (w : World) : Calls Try.prog 30 #[.int .i64 x, .int .i64 lo, .int .i64 hi] w fun e w' => e = .returned (.bool (inB x lo hi)) ∧ w = w' := by
  by_cases h1 : lo ≤ x
  · by_cases h2 : x ≤ hi
    · rw [inB_t h1 h2]
      go_enter Try.func30, Try.ntmps30
      go_wp2
      go_ret
      exact ⟨rfl, rfl⟩
    · rw [inB_f2 h2]
      go_enter Try.func30, Try.ntmps30
      go_wp2
      go_ret
      exact ⟨rfl, rfl⟩
  · rw [inB_f1 h1]
    go_enter Try.func30, Try.ntmps30
    go_wp2
    go_ret
    exact ⟨rfl, rfl⟩
theorem spec_l1In (x lo hi : Int) (w : World) : Calls Try.prog 29 #[.int .i64 x, .int .i64 lo, .int .i64 hi] w fun e w' => e = .returned (.bool (inB x lo hi)) ∧ w = w' := by
  by_cases h1 : lo ≤ x
  · by_cases h2 : x ≤ hi
    · rw [inB_t h1 h2]
      go_enter Try.func29, Try.ntmps29
      go_wp2
      go_ret
      exact ⟨rfl, rfl⟩
    · rw [inB_f2 h2]
      go_enter Try.func29, Try.ntmps29
      go_wp2
      go_ret
      exact ⟨rfl, rfl⟩
  · rw [inB_f1 h1]
    go_enter Try.func29, Try.ntmps29
    go_wp2
    go_ret
    exact ⟨rfl, rfl⟩
def freshM (x y : Int) : Bool := inB x 0 1000000 && inB y 0 1000000 && inB (wrap64 (x - y)) 0 10
theorem spec_Fresh (x y : Int) (w : World) : Calls Try.prog 8 #[.int .i64 x, .int .i64 y] w fun e w' => e = .returned (.bool (freshM x y)) ∧ w = w' := by
  go_enter Try.func8, Try.ntmps8
  go_wp2_with (go_at_call 29; refine (spec_l1In _ _ _ _).mono ?_; rintro e w' ⟨rfl, rfl⟩)
  all_goals
    go_ret
    refine ⟨?_, rfl⟩
    unfold freshM
    simp [*]
theorem impl_Fresh (x y : Int) (w : World) : Calls Try.prog 9 #[.int .i64 x, .int .i64 y] w fun e w' => e = .returned (.bool (freshM x y)) ∧ w = w' := by
  go_enter Try.func9, Try.ntmps9
  go_wp2_with (go_at_call 30; refine (impl_within _ _ _ _).mono ?_; rintro e w' ⟨rfl, rfl⟩)
  all_goals
    go_ret
    refine ⟨?_, rfl⟩
    unfold freshM
    simp [*]
theorem impl_PskOk (a : Option Addr) (n c : Nat) (w : World) : Calls Try.prog 12 #[.slice a n c] w fun e w' => e = .returned (.bool (inB n 1 32)) ∧ w = w' := by
  go_enter Try.func12, Try.ntmps12
  go_wp2_with (go_at_call 30; refine (impl_within _ _ _ _).mono ?_; rintro e w' ⟨rfl, rfl⟩)
  go_ret
  exact ⟨rfl, rfl⟩
theorem spec_PskOk (a : Option Addr) (n c : Nat) (w : World) : Calls Try.prog 10 #[.slice a n c] w fun e w' => e = .returned (.bool (inB n 1 32)) ∧ w = w' := by
  go_enter Try.func10, Try.ntmps10
  go_wp2_with (go_at_call 29; refine (spec_l1In _ _ _ _).mono ?_; rintro e w' ⟨rfl, rfl⟩)
  go_ret
  exact ⟨rfl, rfl⟩
theorem impl_JarOk (a : Option Addr) (n c : Nat) (w : World) : Calls Try.prog 17 #[.agg #[.slice a n c]] w fun e w' => e = .returned (.bool ((n : Int) == 32)) ∧ w.grownBy w' none := by
  go_enter Try.func17, Try.ntmps17
  go_wp2
  go_ret
  exact ⟨rfl, gb_alloc (gb_refl _) _⟩
theorem spec_JarOk (a : Option Addr) (n c : Nat) (w : World) : Calls Try.prog 15 #[.agg #[.slice a n c]] w fun e w' => e = .returned (.bool ((n : Int) == 32)) ∧ w.grownBy w' none := by
  go_enter Try.func15, Try.ntmps15
  go_wp2
  go_ret
  exact ⟨rfl, gb_alloc (gb_refl _) _⟩
theorem impl_DiceOk (a : Option Addr) (n c : Nat) (x : Int) (w : World) : Calls Try.prog 22 #[.agg #[.slice a n c, .int .i64 x]] w fun e w' => e = .returned (.bool (inB n 1 32 && inB x 0 10000)) ∧ w.grownBy w' none := by
  go_enter Try.func22, Try.ntmps22
  go_wp2_with (go_at_call 30; refine (impl_within _ _ _ _).mono ?_; rintro e w' ⟨rfl, rfl⟩)
  all_goals
    go_ret
    refine ⟨?_, gb_alloc (gb_refl _) _⟩
    simp [*]
theorem spec_DiceOk (a : Option Addr) (n c : Nat) (x : Int) (w : World) : Calls Try.prog 20 #[.agg #[.slice a n c, .int .i64 x]] w fun e w' => e = .returned (.bool (inB n 1 32 && inB x 0 10000)) ∧ w.grownBy w' none := by
  go_enter Try.func20, Try.ntmps20
  go_wp2_with (go_at_call 29; refine (spec_l1In _ _ _ _).mono ?_; rintro e w' ⟨rfl, rfl⟩)
  all_goals
    go_ret
    refine ⟨?_, gb_alloc (gb_refl _) _⟩
    simp [*]
end Go.Proofs.Ytgdhciebmcpkaaa
