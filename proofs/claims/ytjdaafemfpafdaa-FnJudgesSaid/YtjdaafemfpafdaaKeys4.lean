/-
  Contracts of proofs and of cookies. Conditions: none beside those that each theorem names.
-/
import Derived.Test.YtjdaafemfpafdaaKeys3
import Derived.Deep.RegionHeld3
namespace Go.Proofs.Ytjdaafemfpafdaa
open Go.RowKit
set_option maxRecDepth 1000000 in
set_option maxHeartbeats 1000000 in
theorem impl_Mint (a : Option Addr) (n c : Nat) (l : List UInt8) (h p id : Int) (a1 : Option Addr) (n1 c1 : Nat) (l1 : List UInt8) (a2 : Option Addr) (n2 c2 : Nat) (l2 : List UInt8) (tick : Int) (w : World) (r : Rd w a n c (bys l)) (r1 : Rd w a1 n1 c1 (bys l1)) (r2 : Rd w a2 n2 c2 (bys l2)) :
    Calls Try.prog 8 #[.agg #[.slice a n c], .agg #[.int .i64 h, .int .i64 p], .int .i64 id, .slice a1 n1 c1, .slice a2 n2 c2, .int .i64 tick] w (RetB w (cookM l h p id l1 l2 tick)) := by
  obtain ⟨B, hB⟩ : ∃ B, B = mintM h p id l1 l2 tick := ⟨_, rfl⟩
  have BL := mintM_len h p id l1 l2 tick
  rw [cookM]
  rw [← hB] at BL ⊢
  have HB := Lib.hid hB
  have L := Lib.hid r.blen
  clear hB
  have g0 := gb_alloc (gb_alloc (gb_refl w) (.cells #[.slice a n c] 25)) (.cells #[.int .i64 h, .int .i64 p] 27)
  have bb := bx2 w #[.slice a n c] #[.int .i64 h, .int .i64 p] 25 27
  cases hj : ((n : Int) == 32)
  · rw [if_neg (by rw [L.out]; simp at hj; omega)]
    go_enter Try.func8, Try.ntmps8
    go_wp2_with (first
      | (go_at_call 12; refine (impl_MintBody h p id a1 n1 c1 l1 a2 n2 c2 l2 tick _ (r1.keep0 g0) (r2.keep0 g0)).mono ?_; rw [← HB.out]; rintro e w4 ⟨a4, n4, c4, rfl, o4, g4⟩; have b0 := bb.1.keep0 g4; have cc := fun o => b0.cell o; have lt := b0.lt)
      | (go_at_call 11; refine (impl_JarOk a n c _).mono ?_; rw [hj]; rintro e w5 ⟨rfl, g5⟩; replace b0 := b0.keep0 g5; clear cc lt; have cc := fun o => b0.cell o; have lt := b0.lt))
    go_ret
    first | exact ⟨_, _, _, rfl, Ow.nil _ _ _, gb_trans (gb_trans g0 g4) g5⟩ | exact ⟨_, _, _, rfl, (new_own _ _).mono (gb_trans (gb_trans g0 g4) g5).size, gb_alloc (gb_trans (gb_trans g0 g4) g5) _⟩
  have hn : n = 32 := by simp at hj; omega
  by_cases hb : B.length = 0
  · rw [if_neg (by omega)]
    obtain rfl := List.eq_nil_of_length_eq_zero hb
    clear hb hn
    go_enter Try.func8, Try.ntmps8
    go_wp2_with (first
      | (go_at_call 12; refine (impl_MintBody h p id a1 n1 c1 l1 a2 n2 c2 l2 tick _ (r1.keep0 g0) (r2.keep0 g0)).mono ?_; rw [← HB.out]; rintro e w4 ⟨a4, n4, c4, rfl, o4, g4⟩; have b0 := bb.1.keep0 g4; have cc := fun o => b0.cell o; have lt := b0.lt; obtain rfl : n4 = 0 := o4.blen.symm)
      | (go_at_call 11; refine (impl_JarOk a n c _).mono ?_; rw [hj]; rintro e w5 ⟨rfl, g5⟩; replace b0 := b0.keep0 g5; clear cc lt; have cc := fun o => b0.cell o; have lt := b0.lt))
    go_ret
    first | exact ⟨_, _, _, rfl, Ow.nil _ _ _, gb_trans (gb_trans g0 g4) g5⟩ | exact ⟨_, _, _, rfl, (new_own _ _).mono (gb_trans (gb_trans g0 g4) g5).size, gb_alloc (gb_trans (gb_trans g0 g4) g5) _⟩
  · rw [if_pos (by rw [L.out]; exact ⟨hn, hb⟩)]
    have hm : n ≤ 1073741824 := by omega
    clear hn
    go_enter Try.func8, Try.ntmps8
    go_wp2_with (first
      | (go_at_call 12; refine (impl_MintBody h p id a1 n1 c1 l1 a2 n2 c2 l2 tick _ (r1.keep0 g0) (r2.keep0 g0)).mono ?_; rw [← HB.out]; rintro e w4 ⟨a4, n4, c4, rfl, o4, g4⟩; have b0 := bb.1.keep0 g4; have cc := fun o => b0.cell o; have lt := b0.lt; have e4 := o4.blen; have p4 : ((n4 : Int) == 0) = false := (by rw [beq_eq_false_iff_ne]; omega); have q4 : n4 ≠ 0 := (by omega))
      | (go_at_call 11; refine (impl_JarOk a n c _).mono ?_; rw [hj]; rintro e w5 ⟨rfl, g5⟩; replace b0 := b0.keep0 g5; clear cc lt; have cc := fun o => b0.cell o; have lt := b0.lt)
      | (go_at_call 35; refine (impl_Tag _ _ _ l _ _ _ B _ (r.keep0 (gb_trans (gb_trans g0 g4) g5)) (o4.rd.keep0 g5) hm (by omega)).mono ?_; rintro e w6 ⟨a6, n6, c6, rfl, o6, g6⟩))
    go_ret
    exact retB o6 (gb_trans (gb_trans g0 g4) g5).size (gb_trans (gb_trans (gb_trans g0 g4) g5) g6) rfl
set_option maxRecDepth 1000000 in
set_option maxHeartbeats 1000000 in
theorem spec_Mint (a : Option Addr) (n c : Nat) (l : List UInt8) (h p id : Int) (a1 : Option Addr) (n1 c1 : Nat) (l1 : List UInt8) (a2 : Option Addr) (n2 c2 : Nat) (l2 : List UInt8) (tick : Int) (w : World) (r : Rd w a n c (bys l)) (r1 : Rd w a1 n1 c1 (bys l1)) (r2 : Rd w a2 n2 c2 (bys l2)) :
    Calls Try.prog 10 #[.agg #[.slice a n c], .agg #[.int .i64 h, .int .i64 p], .int .i64 id, .slice a1 n1 c1, .slice a2 n2 c2, .int .i64 tick] w (RetB w (cookM l h p id l1 l2 tick)) := by
  obtain ⟨B, hB⟩ : ∃ B, B = mintM h p id l1 l2 tick := ⟨_, rfl⟩
  have BL := mintM_len h p id l1 l2 tick
  rw [cookM]
  rw [← hB] at BL ⊢
  have HB := Lib.hid hB
  have L := Lib.hid r.blen
  clear hB
  have g0 := gb_alloc (gb_alloc (gb_refl w) (.cells #[.slice a n c] 25)) (.cells #[.int .i64 h, .int .i64 p] 27)
  have bb := bx2 w #[.slice a n c] #[.int .i64 h, .int .i64 p] 25 27
  cases hj : ((n : Int) == 32)
  · rw [if_neg (by rw [L.out]; simp at hj; omega)]
    go_enter Try.func10, Try.ntmps10
    go_wp2_with (first
      | (go_at_call 36; refine (spec_MintBody h p id a1 n1 c1 l1 a2 n2 c2 l2 tick _ (r1.keep0 g0) (r2.keep0 g0)).mono ?_; rw [← HB.out]; rintro e w4 ⟨a4, n4, c4, rfl, o4, g4⟩; have b0 := bb.1.keep0 g4; have cc := fun o => b0.cell o; have lt := b0.lt)
      | (go_at_call 37; refine (spec_JarOk a n c _).mono ?_; rw [hj]; rintro e w5 ⟨rfl, g5⟩; replace b0 := b0.keep0 g5; clear cc lt; have cc := fun o => b0.cell o; have lt := b0.lt))
    go_ret
    first | exact ⟨_, _, _, rfl, Ow.nil _ _ _, gb_trans (gb_trans g0 g4) g5⟩ | exact ⟨_, _, _, rfl, (new_own _ _).mono (gb_trans (gb_trans g0 g4) g5).size, gb_alloc (gb_trans (gb_trans g0 g4) g5) _⟩
  have hn : n = 32 := by simp at hj; omega
  by_cases hb : B.length = 0
  · rw [if_neg (by omega)]
    obtain rfl := List.eq_nil_of_length_eq_zero hb
    clear hb hn
    go_enter Try.func10, Try.ntmps10
    go_wp2_with (first
      | (go_at_call 36; refine (spec_MintBody h p id a1 n1 c1 l1 a2 n2 c2 l2 tick _ (r1.keep0 g0) (r2.keep0 g0)).mono ?_; rw [← HB.out]; rintro e w4 ⟨a4, n4, c4, rfl, o4, g4⟩; have b0 := bb.1.keep0 g4; have cc := fun o => b0.cell o; have lt := b0.lt; obtain rfl : n4 = 0 := o4.blen.symm)
      | (go_at_call 37; refine (spec_JarOk a n c _).mono ?_; rw [hj]; rintro e w5 ⟨rfl, g5⟩; replace b0 := b0.keep0 g5; clear cc lt; have cc := fun o => b0.cell o; have lt := b0.lt))
    go_ret
    first | exact ⟨_, _, _, rfl, Ow.nil _ _ _, gb_trans (gb_trans g0 g4) g5⟩ | exact ⟨_, _, _, rfl, (new_own _ _).mono (gb_trans (gb_trans g0 g4) g5).size, gb_alloc (gb_trans (gb_trans g0 g4) g5) _⟩
  · rw [if_pos (by rw [L.out]; exact ⟨hn, hb⟩)]
    have hm : n ≤ 1073741824 := by omega
    clear hn
    go_enter Try.func10, Try.ntmps10
    go_wp2_with (first
      | (go_at_call 36; refine (spec_MintBody h p id a1 n1 c1 l1 a2 n2 c2 l2 tick _ (r1.keep0 g0) (r2.keep0 g0)).mono ?_; rw [← HB.out]; rintro e w4 ⟨a4, n4, c4, rfl, o4, g4⟩; have b0 := bb.1.keep0 g4; have cc := fun o => b0.cell o; have lt := b0.lt; have e4 := o4.blen; have p4 : ((n4 : Int) == 0) = false := (by rw [beq_eq_false_iff_ne]; omega); have q4 : n4 ≠ 0 := (by omega))
      | (go_at_call 37; refine (spec_JarOk a n c _).mono ?_; rw [hj]; rintro e w5 ⟨rfl, g5⟩; replace b0 := b0.keep0 g5; clear cc lt; have cc := fun o => b0.cell o; have lt := b0.lt)
      | (go_at_call 38; refine (spec_Tag _ _ _ l _ _ _ B _ (r.keep0 (gb_trans (gb_trans g0 g4) g5)) (o4.rd.keep0 g5) hm (by omega)).mono ?_; rintro e w6 ⟨a6, n6, c6, rfl, o6, g6⟩))
    go_ret
    exact retB o6 (gb_trans (gb_trans g0 g4) g5).size (gb_trans (gb_trans (gb_trans g0 g4) g5) g6) rfl
end Go.Proofs.Ytjdaafemfpafdaa
