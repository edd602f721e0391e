/-
  Contracts of the functions on the kinds' names. Conditions: none beside those that each theorem names.
-/
import Derived.Test.YtgeoeacfkacdpaaFrame
import Derived.Test.YtgeoeacfkacdpaaWord
import Derived.Test.YtgeoeacfkacdpaaStr
import Derived.Test.YtgeoeacfkacdpaaCell
namespace Go.Proofs.Ytgeoeacfkacdpaa
open Go.RowKit
/-- a kind's name -/
def nmS (k : Int) : ByteArray :=
  if k = 1 then ⟨#[105, 110, 105, 116]⟩ else if k = 2 then ⟨#[99, 111, 111, 107, 105, 101]⟩ else if k = 3 then ⟨#[102, 105, 110, 105, 115, 104]⟩ else if k = 4 then ⟨#[100, 97, 116, 97]⟩
  else if k = 5 then ⟨#[99, 104, 97, 108, 108, 101, 110, 103, 101]⟩ else if k = 6 then ⟨#[114, 101, 115, 112, 111, 110, 115, 101]⟩ else if k = 7 then ⟨#[114, 101, 107, 101, 121]⟩ else if k = 8 then ⟨#[114, 101, 107, 101, 121, 97, 99, 107]⟩ else ⟨#[]⟩
def kFrom (s : ByteArray) : Nat → Nat → Int
  | 0, _ => 0
  | f + 1, j => if ((nmS (j : Int)).toList == s.toList) = true then (j : Int) else kFrom s f (j + 1)
/-- a name's kind -/
def kOf (s : ByteArray) : Int := kFrom s 8 1
theorem nmS_out {k : Int} (h : inB k 1 8 = false) : nmS k = ⟨#[]⟩ := by
  have h1 : ¬ (1 ≤ k ∧ k ≤ 8) := by rw [← inB_iff, h]; decide
  unfold nmS
  repeat rw [if_neg (by omega)]
theorem kinds8 {k : Int} (h : inB k 1 8 = true) : k = 1 ∨ k = 2 ∨ k = 3 ∨ k = 4 ∨ k = 5 ∨ k = 6 ∨ k = 7 ∨ k = 8 := by
  have := inB_iff.1 h
  omega
theorem kOf_nm {k : Int} (h : inB k 1 8 = true) : kOf (nmS k) = k := by
  rcases kinds8 h with rfl | rfl | rfl | rfl | rfl | rfl | rfl | rfl <;> decide +kernel
theorem nm_empty {k : Int} (h : inB k 1 8 = true) : (nmS k).toList.isEmpty = false := by
  rcases kinds8 h with rfl | rfl | rfl | rfl | rfl | rfl | rfl | rfl <;> decide +kernel
theorem kFrom_nm (s : ByteArray) : ∀ f j : Nat, kFrom s f j ≠ 0 → ((nmS (kFrom s f j)).toList == s.toList) = true
  | 0, _, h => absurd rfl h
  | f + 1, j, h => by
    unfold kFrom at h ⊢
    split
    · rename_i h1
      exact h1
    · rename_i h1
      rw [if_neg h1] at h
      exact kFrom_nm s f (j + 1) h
theorem nm_kOf {s : ByteArray} (h : kOf s ≠ 0) : ((nmS (kOf s)).toList == s.toList) = true := kFrom_nm s 8 1 h
set_option maxRecDepth 1000000 in
set_option maxHeartbeats 4000000 in
theorem impl_KindName (k : Int) (w : World) : Calls Try.prog 12 #[.int .i64 k] w fun e w' => e = .returned (.string (nmS k)) ∧ w.grownBy w' none := by
  cases h : inB k 1 8
  · rw [nmS_out h]
    replace h := Lib.hid h
    go_enter Try.func12, Try.ntmps12
    go_wp2_with (go_at_call 59; refine (impl_within _ _ _ _).mono ?_; rw [h.out]; rintro e w1 ⟨rfl, rfl⟩)
    go_ret
    exact ⟨rfl, gb_alloc (gb_refl _) _⟩
  · have h8 := kinds8 h
    replace h := Lib.hid h
    rcases h8 with rfl | rfl | rfl | rfl | rfl | rfl | rfl | rfl
    all_goals
      go_enter Try.func12, Try.ntmps12
      go_wp2_with (go_at_call 59; refine (impl_within _ _ _ _).mono ?_; rw [h.out]; rintro e w1 ⟨rfl, rfl⟩)
      go_ret
      exact ⟨rfl, gb_alloc (gb_refl _) _⟩
set_option maxRecDepth 1000000 in
set_option maxHeartbeats 4000000 in
theorem spec_KindName (k : Int) (w : World) : Calls Try.prog 62 #[.int .i64 k] w fun e w' => e = .returned (.string (nmS k)) ∧ w.grownBy w' none := by
  cases h : inB k 1 8
  · rw [nmS_out h]
    replace h := Lib.hid h
    go_enter Try.func62, Try.ntmps62
    go_wp2_with (go_at_call 69; refine (spec_l1In _ _ _ _).mono ?_; rw [h.out]; rintro e w1 ⟨rfl, rfl⟩)
    go_ret
    exact ⟨rfl, gb_alloc (gb_refl _) _⟩
  · have h8 := kinds8 h
    replace h := Lib.hid h
    rcases h8 with rfl | rfl | rfl | rfl | rfl | rfl | rfl | rfl
    all_goals
      go_enter Try.func62, Try.ntmps62
      go_wp2_with (go_at_call 69; refine (spec_l1In _ _ _ _).mono ?_; rw [h.out]; rintro e w1 ⟨rfl, rfl⟩)
      go_ret
      exact ⟨rfl, gb_alloc (gb_refl _) _⟩
set_option maxRecDepth 1000000 in
set_option maxHeartbeats 4000000 in
theorem impl_KindOf (s : ByteArray) (w : World) : Calls Try.prog 14 #[.string s] w fun e w' => e = .returned (.int .i64 (kOf s)) ∧ w.grownBy w' none := by
  go_enter Try.func14, Try.ntmps14
  go_wp2
  go_loopw [3] (fun i wr => ∃ j : Nat, 1 ≤ j ∧ j ≤ 9 ∧ i = .int .i64 (j : Int) ∧ w.grownBy wr none ∧ Hid (kOf s = kFrom s (9 - j) j)) (fun i _ => 9 - (intOf i).toNat)
  case atStart => exact ⟨1, by omega, by omega, rfl, gb_refl _, rfl⟩
  case round =>
    obtain ⟨j, hj1, hj9, rfl, hg, hK⟩ := hrel
    by_cases hlt : j ≤ 8
    · have hz : (j : Int) ≤ 8 := by omega
      rw [show 9 - j = (8 - j) + 1 by omega, kFrom] at hK
      cases he : ((nmS (j : Int)).toList == s.toList)
      · rw [he, if_neg (by decide)] at hK
        go_wp2_with (go_at_call 12; refine (impl_KindName _ _).mono ?_; rintro e w1 ⟨rfl, g1⟩)
        refine ⟨⟨j + 1, by omega, by omega, by go_num, gb_trans hg g1, ?_⟩, by simp [intOf]; omega⟩
        rw [show 9 - (j + 1) = 8 - j by omega]
        exact hK
      · rw [he, if_pos rfl] at hK
        go_wp2_with (go_at_call 12; refine (impl_KindName _ _).mono ?_; rintro e w1 ⟨rfl, g1⟩)
        go_ret
        exact ⟨ret_i hK.out.symm, gb_trans hg g1⟩
    · obtain rfl : j = 9 := by omega
      go_wp2
      go_ret
      exact ⟨ret_i hK.out.symm, hg⟩
set_option maxRecDepth 1000000 in
set_option maxHeartbeats 4000000 in
theorem spec_KindOf (s : ByteArray) (w : World) : Calls Try.prog 16 #[.string s] w fun e w' => e = .returned (.int .i64 (kOf s)) ∧ w.grownBy w' none := by
  go_enter Try.func16, Try.ntmps16
  go_wp2
  go_loopw [3] (fun i wr => ∃ j : Nat, 1 ≤ j ∧ j ≤ 9 ∧ i = .int .i64 (j : Int) ∧ w.grownBy wr none ∧ Hid (kOf s = kFrom s (9 - j) j)) (fun i _ => 9 - (intOf i).toNat)
  case atStart => exact ⟨1, by omega, by omega, rfl, gb_refl _, rfl⟩
  case round =>
    obtain ⟨j, hj1, hj9, rfl, hg, hK⟩ := hrel
    by_cases hlt : j ≤ 8
    · have hz : (j : Int) ≤ 8 := by omega
      rw [show 9 - j = (8 - j) + 1 by omega, kFrom] at hK
      cases he : ((nmS (j : Int)).toList == s.toList)
      · rw [he, if_neg (by decide)] at hK
        go_wp2_with (go_at_call 62; refine (spec_KindName _ _).mono ?_; rintro e w1 ⟨rfl, g1⟩)
        refine ⟨⟨j + 1, by omega, by omega, by go_num, gb_trans hg g1, ?_⟩, by simp [intOf]; omega⟩
        rw [show 9 - (j + 1) = 8 - j by omega]
        exact hK
      · rw [he, if_pos rfl] at hK
        go_wp2_with (go_at_call 62; refine (spec_KindName _ _).mono ?_; rintro e w1 ⟨rfl, g1⟩)
        go_ret
        exact ⟨ret_i hK.out.symm, gb_trans hg g1⟩
    · obtain rfl : j = 9 := by omega
      go_wp2
      go_ret
      exact ⟨ret_i hK.out.symm, hg⟩
end Go.Proofs.Ytgeoeacfkacdpaa
