/-
  Contracts of the small functions that the laws call. Conditions: none beside those that each theorem names.
-/
import Derived.Test.YtjdaafemfpafdaaHelpS
import Derived.Test.YtjdaafemfpafdaaStr
import Derived.Test.YtjdaafemfpafdaaFrOkP
import Derived.Test.YtjdaafemfpafdaaCell
namespace Go.Proofs.Ytjdaafemfpafdaa
open Go.RowKit
theorem laws_big (a : Option Addr) (n c : Nat) (w : World) : Calls Try.prog 6 #[.slice a n c] w fun e w' => e = .returned (.bool (decide (1048576 < n))) ∧ w = w' := by
  by_cases h : 1048576 < n
  · go_enter Try.func6, Try.ntmps6
    go_wp2
    go_ret
    exact ⟨ret_b (by simp; omega), rfl⟩
  · go_enter Try.func6, Try.ntmps6
    go_wp2
    go_ret
    exact ⟨ret_b (by simp; omega), rfl⟩
theorem laws_same (a : Option Addr) (n c : Nat) (b : Option Addr) (m d : Nat) (l k : List UInt8) (w : World) (h1 : Rd w a n c (bys l)) (h2 : Rd w b m d (bys k)) :
    Calls Try.prog 9 #[.slice a n c, .slice b m d] w fun e w' => e = .returned (.bool (eqL l k)) ∧ w = w' := by
  have c1 := h1.conv (P := Try.prog) 22 5 9 Try.underlying22 Try.underlying5 Try.underlying9
  have c2 := h2.conv (P := Try.prog) 22 5 9 Try.underlying22 Try.underlying5 Try.underlying9
  go_enter Try.func9, Try.ntmps9
  go_wp2
  go_ret
  exact ⟨ret_b (by rw [str_toList, str_toList]; rfl), rfl⟩
theorem eqL_rfl (l : List UInt8) : eqL l l = true := eqL_iff.2 rfl
theorem laws_same_t (a : Option Addr) (n c : Nat) (b : Option Addr) (m d : Nat) (l : List UInt8) (w : World) (h1 : Rd w a n c (bys l)) (h2 : Rd w b m d (bys l)) :
    Calls Try.prog 9 #[.slice a n c, .slice b m d] w fun e w' => e = .returned (.bool true) ∧ w = w' := by
  have := laws_same a n c b m d l l w h1 h2
  rwa [eqL_rfl] at this
end Go.Proofs.Ytjdaafemfpafdaa
