/-
  Contracts of jars and of nonces. Conditions: none beside those that each theorem names.
-/
import Derived.Test.YtjdaafemfpafdaaKeys
import Derived.Test.YtjdaafemfpafdaaHelpS
import Derived.Deep.RegionHeld3
import Derived.Lib.SmallJoins
namespace Go.Proofs.Ytjdaafemfpafdaa
open Go.RowKit
set_option maxRecDepth 1000000 in
theorem impl_JarNew (a : Option Addr) (n c : Nat) (l : List UInt8) (w : World) (r : Rd w a n c (bys l)) : Calls Try.prog 22 #[.slice a n c] w fun e w' => ∃ v', e = .returned v' ∧ JarO w.heap.size w'.heap.size w' v' ⟨jarM l⟩ ∧ w.grownBy w' none := by
  have g0 := gb_alloc (gb_refl w) (.cells #[.slice none 0 0] 25)
  have b0 := bx1 w #[.slice none 0 0] 25
  cases h : ((n : Int) == 12)
  · have h' : ((n : Int) != 12) = true := by simpa using h
    rw [jarM, if_neg (by rw [r.blen]; simp at h; omega)]
    go_enter Try.func22, Try.ntmps22
    go_wp2_with (go_at_call 41; refine (impl_isNonce _ _ _ _).mono ?_; rintro e w' ⟨rfl, rfl⟩)
    refine bodyPost_ret (v := .agg #[.slice none 0 0]) (by simp [results, Try.results22, go_sem]) rfl ⟨_, rfl, ⟨_, _, _, rfl, Ow.nil _ _ _, fun p hp => by cases hp⟩, ?_⟩
    repeat (first | with_reducible exact g0 | (refine gb_set ?_ (.inl ?_) _; rotate_left; focus (first | (simp; done) | (simp; omega))))
  · have h' : ((n : Int) != 12) = false := by simpa using h
    have hn : n ≤ 12 := by have := beq_iff_eq.1 h; omega
    rw [jarM, if_pos (by rw [r.blen]; simp at h; omega)]
    have C := Lib.hid (show ∀ (w : World), Rd w a n c (bys l) → Calls Try.prog 57 #[.slice a n c, .string { data := #[106, 97, 114] }] w (RetB w (derM l lJar)) from fun w r => impl_Derive a n c l lJar w r (by omega) (by decide))
    go_enter Try.func22, Try.ntmps22
    go_wp2_with (first
      | (go_at_call 41; refine (impl_isNonce _ _ _ _).mono ?_; rintro e w' ⟨rfl, rfl⟩)
      | (go_at_call 57; (with_reducible refine (C.out _ (r.keep0 g0)).mono ?_); rintro e w4 ⟨a4, n4, c4, rfl, o4, g4⟩; replace b0 := b0.keep0 g4; have cc := fun o => b0.cell o; have ff := fun o => b0.frozen o; have lt := b0.lt))
    have G4 := gb_trans g0 g4
    have O4 := o4.mono (B' := w.heap.size + 1) (by simp <;> omega)
    have l4 := fun p hp => (o4.lt p hp).2
    refine bodyPost_ret (v := .agg #[.slice a4 n4 c4]) (by simp [results, Try.results22, go_sem, cc]) rfl ⟨_, rfl, ⟨_, _, _, rfl, ?_, ?_⟩, ?_⟩
    · refine Ow.mono (B := w.heap.size + 1) ?_ (by omega)
      repeat (first | with_reducible exact O4 | (refine Ow.keepSet ?_ ?_ _; rotate_left; focus (first | (simp; done) | (simp; omega))))
    · intro p hp
      simpa using l4 p hp
    · repeat (first | with_reducible exact G4 | (refine gb_set ?_ (.inl ?_) _; rotate_left; focus (first | (simp; done) | (simp; omega))))
set_option maxRecDepth 1000000 in
theorem spec_JarNew (a : Option Addr) (n c : Nat) (l : List UInt8) (w : World) (r : Rd w a n c (bys l)) : Calls Try.prog 63 #[.slice a n c] w fun e w' => ∃ v', e = .returned v' ∧ JarO w.heap.size w'.heap.size w' v' ⟨jarM l⟩ ∧ w.grownBy w' none := by
  have g0 := gb_alloc (gb_refl w) (.cells #[.slice none 0 0] 25)
  have b0 := bx1 w #[.slice none 0 0] 25
  cases h : ((n : Int) == 12)
  · have h' : ((n : Int) != 12) = true := by simpa using h
    rw [jarM, if_neg (by rw [r.blen]; simp at h; omega)]
    go_enter Try.func63, Try.ntmps63
    go_wp2_with (go_at_call 41; refine (impl_isNonce _ _ _ _).mono ?_; rintro e w' ⟨rfl, rfl⟩)
    refine bodyPost_ret (v := .agg #[.slice none 0 0]) (by simp [results, Try.results63, go_sem]) rfl ⟨_, rfl, ⟨_, _, _, rfl, Ow.nil _ _ _, fun p hp => by cases hp⟩, ?_⟩
    repeat (first | with_reducible exact g0 | (refine gb_set ?_ (.inl ?_) _; rotate_left; focus (first | (simp; done) | (simp; omega))))
  · have h' : ((n : Int) != 12) = false := by simpa using h
    have hn : n ≤ 12 := by have := beq_iff_eq.1 h; omega
    rw [jarM, if_pos (by rw [r.blen]; simp at h; omega)]
    have C := Lib.hid (show ∀ (w : World), Rd w a n c (bys l) → Calls Try.prog 78 #[.slice a n c, .string { data := #[106, 97, 114] }] w (RetB w (derM l lJar)) from fun w r => spec_Derive a n c l lJar w r (by omega) (by decide))
    go_enter Try.func63, Try.ntmps63
    go_wp2_with (first
      | (go_at_call 41; refine (impl_isNonce _ _ _ _).mono ?_; rintro e w' ⟨rfl, rfl⟩)
      | (go_at_call 78; (with_reducible refine (C.out _ (r.keep0 g0)).mono ?_); rintro e w4 ⟨a4, n4, c4, rfl, o4, g4⟩; replace b0 := b0.keep0 g4; have cc := fun o => b0.cell o; have ff := fun o => b0.frozen o; have lt := b0.lt))
    have G4 := gb_trans g0 g4
    have O4 := o4.mono (B' := w.heap.size + 1) (by simp <;> omega)
    have l4 := fun p hp => (o4.lt p hp).2
    refine bodyPost_ret (v := .agg #[.slice a4 n4 c4]) (by simp [results, Try.results63, go_sem, cc]) rfl ⟨_, rfl, ⟨_, _, _, rfl, ?_, ?_⟩, ?_⟩
    · refine Ow.mono (B := w.heap.size + 1) ?_ (by omega)
      repeat (first | with_reducible exact O4 | (refine Ow.keepSet ?_ ?_ _; rotate_left; focus (first | (simp; done) | (simp; omega))))
    · intro p hp
      simpa using l4 p hp
    · repeat (first | with_reducible exact G4 | (refine gb_set ?_ (.inl ?_) _; rotate_left; focus (first | (simp; done) | (simp; omega))))
end Go.Proofs.Ytjdaafemfpafdaa
