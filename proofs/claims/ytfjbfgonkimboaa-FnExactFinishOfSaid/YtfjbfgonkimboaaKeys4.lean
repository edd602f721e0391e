/-
  Contracts of proofs and of cookies. Conditions: none beside those that each theorem names.
-/
import Derived.Test.YtfjbfgonkimboaaKeys3
import Derived.Deep.RegionHeld3
namespace Go.Proofs.Ytfjbfgonkimboaa
open Go.RowKit
set_option maxRecDepth 1000000 in
set_option maxHeartbeats 1000000 in
theorem impl_Proof (a : Option Addr) (n c : Nat) (l : List UInt8) (id : Int) (a1 : Option Addr) (n1 c1 : Nat) (l1 : List UInt8) (a2 : Option Addr) (n2 c2 : Nat) (l2 : List UInt8) (tick : Int) (a3 : Option Addr) (n3 c3 : Nat) (l3 : List UInt8) (w : World) (r : Rd w a n c (bys l)) (r1 : Rd w a1 n1 c1 (bys l1)) (r2 : Rd w a2 n2 c2 (bys l2)) (r3 : Rd w a3 n3 c3 (bys l3)) :
    Calls Try.prog 58 #[.slice a n c, .int .i64 id, .slice a1 n1 c1, .slice a2 n2 c2, .int .i64 tick, .slice a3 n3 c3] w (RetB w (proofM l id l1 l2 tick l3)) := by
  obtain ⟨F, hF⟩ : ∃ F, F = finM l := ⟨_, rfl⟩
  obtain ⟨B, hB⟩ : ∃ B, B = pbM id l1 l2 tick l3 := ⟨_, rfl⟩
  have FL := finM_le l
  have BL := pbM_len id l1 l2 tick l3
  rw [proofM]
  rw [← hF] at FL ⊢
  rw [← hB] at BL ⊢
  have HF := Lib.hid hF
  have HB := Lib.hid hB
  clear hF hB
  by_cases hf : F.length = 0
  · rw [if_pos (.inl hf)]
    obtain rfl := List.eq_nil_of_length_eq_zero hf
    clear hf
    go_enter Try.func58, Try.ntmps58
    go_wp2_with (first
      | (go_at_call 93; refine (impl_FinishKey _ _ _ _ _ r).mono ?_; rw [← HF.out]; rintro e w4 ⟨a4, n4, c4, rfl, o4, g4⟩; obtain rfl : n4 = 0 := o4.blen.symm)
      | (go_at_call 94; refine (impl_ProofBody id _ _ _ l1 _ _ _ l2 tick _ _ _ l3 _ (r1.keep0 g4) (r2.keep0 g4) (r3.keep0 g4)).mono ?_; rw [← HB.out]; rintro e w5 ⟨a5, n5, c5, rfl, o5, g5⟩; skip))
    go_ret
    first | exact ⟨_, _, _, rfl, Ow.nil _ _ _, gb_trans g4 g5⟩ | exact ⟨_, _, _, rfl, (new_own _ _).mono (gb_trans g4 g5).size, gb_alloc (gb_trans g4 g5) _⟩
  by_cases hb : B.length = 0
  · rw [if_pos (.inr hb)]
    obtain rfl := List.eq_nil_of_length_eq_zero hb
    clear hb
    go_enter Try.func58, Try.ntmps58
    go_wp2_with (first
      | (go_at_call 93; refine (impl_FinishKey _ _ _ _ _ r).mono ?_; rw [← HF.out]; rintro e w4 ⟨a4, n4, c4, rfl, o4, g4⟩; have e4 := o4.blen; have p4 : ((n4 : Int) == 0) = false := (by rw [beq_eq_false_iff_ne]; omega); have q4 : n4 ≠ 0 := (by omega))
      | (go_at_call 94; refine (impl_ProofBody id _ _ _ l1 _ _ _ l2 tick _ _ _ l3 _ (r1.keep0 g4) (r2.keep0 g4) (r3.keep0 g4)).mono ?_; rw [← HB.out]; rintro e w5 ⟨a5, n5, c5, rfl, o5, g5⟩; obtain rfl : n5 = 0 := o5.blen.symm))
    go_ret
    first | exact ⟨_, _, _, rfl, Ow.nil _ _ _, gb_trans g4 g5⟩ | exact ⟨_, _, _, rfl, (new_own _ _).mono (gb_trans g4 g5).size, gb_alloc (gb_trans g4 g5) _⟩
  have hz : ¬ (F.length = 0 ∨ B.length = 0) := by omega
  · rw [if_neg hz]
    clear hz
    go_enter Try.func58, Try.ntmps58
    go_wp2_with (first
      | (go_at_call 93; refine (impl_FinishKey _ _ _ _ _ r).mono ?_; rw [← HF.out]; rintro e w4 ⟨a4, n4, c4, rfl, o4, g4⟩; have e4 := o4.blen; have p4 : ((n4 : Int) == 0) = false := (by rw [beq_eq_false_iff_ne]; omega); have q4 : n4 ≠ 0 := (by omega))
      | (go_at_call 94; refine (impl_ProofBody id _ _ _ l1 _ _ _ l2 tick _ _ _ l3 _ (r1.keep0 g4) (r2.keep0 g4) (r3.keep0 g4)).mono ?_; rw [← HB.out]; rintro e w5 ⟨a5, n5, c5, rfl, o5, g5⟩; have e5 := o5.blen; have p5 : ((n5 : Int) == 0) = false := (by rw [beq_eq_false_iff_ne]; omega); have q5 : n5 ≠ 0 := (by omega))
      | (go_at_call 51; refine (impl_Tag _ _ _ F _ _ _ B _ (o4.rd.keep0 g5) o5.rd (by omega) (by omega)).mono ?_; rintro e w6 ⟨a6, n6, c6, rfl, o6, g6⟩))
    go_ret
    exact retB o6 (gb_trans g4 g5).size (gb_trans (gb_trans g4 g5) g6) rfl
set_option maxRecDepth 1000000 in
set_option maxHeartbeats 1000000 in
theorem spec_Proof (a : Option Addr) (n c : Nat) (l : List UInt8) (id : Int) (a1 : Option Addr) (n1 c1 : Nat) (l1 : List UInt8) (a2 : Option Addr) (n2 c2 : Nat) (l2 : List UInt8) (tick : Int) (a3 : Option Addr) (n3 c3 : Nat) (l3 : List UInt8) (w : World) (r : Rd w a n c (bys l)) (r1 : Rd w a1 n1 c1 (bys l1)) (r2 : Rd w a2 n2 c2 (bys l2)) (r3 : Rd w a3 n3 c3 (bys l3)) :
    Calls Try.prog 56 #[.slice a n c, .int .i64 id, .slice a1 n1 c1, .slice a2 n2 c2, .int .i64 tick, .slice a3 n3 c3] w (RetB w (proofM l id l1 l2 tick l3)) := by
  obtain ⟨F, hF⟩ : ∃ F, F = finM l := ⟨_, rfl⟩
  obtain ⟨B, hB⟩ : ∃ B, B = pbM id l1 l2 tick l3 := ⟨_, rfl⟩
  have FL := finM_le l
  have BL := pbM_len id l1 l2 tick l3
  rw [proofM]
  rw [← hF] at FL ⊢
  rw [← hB] at BL ⊢
  have HF := Lib.hid hF
  have HB := Lib.hid hB
  clear hF hB
  by_cases hf : F.length = 0
  · rw [if_pos (.inl hf)]
    obtain rfl := List.eq_nil_of_length_eq_zero hf
    clear hf
    go_enter Try.func56, Try.ntmps56
    go_wp2_with (first
      | (go_at_call 90; refine (spec_FinishKey _ _ _ _ _ r).mono ?_; rw [← HF.out]; rintro e w4 ⟨a4, n4, c4, rfl, o4, g4⟩; obtain rfl : n4 = 0 := o4.blen.symm)
      | (go_at_call 91; refine (spec_ProofBody id _ _ _ l1 _ _ _ l2 tick _ _ _ l3 _ (r1.keep0 g4) (r2.keep0 g4) (r3.keep0 g4)).mono ?_; rw [← HB.out]; rintro e w5 ⟨a5, n5, c5, rfl, o5, g5⟩; skip))
    go_ret
    first | exact ⟨_, _, _, rfl, Ow.nil _ _ _, gb_trans g4 g5⟩ | exact ⟨_, _, _, rfl, (new_own _ _).mono (gb_trans g4 g5).size, gb_alloc (gb_trans g4 g5) _⟩
  by_cases hb : B.length = 0
  · rw [if_pos (.inr hb)]
    obtain rfl := List.eq_nil_of_length_eq_zero hb
    clear hb
    go_enter Try.func56, Try.ntmps56
    go_wp2_with (first
      | (go_at_call 90; refine (spec_FinishKey _ _ _ _ _ r).mono ?_; rw [← HF.out]; rintro e w4 ⟨a4, n4, c4, rfl, o4, g4⟩; have e4 := o4.blen; have p4 : ((n4 : Int) == 0) = false := (by rw [beq_eq_false_iff_ne]; omega); have q4 : n4 ≠ 0 := (by omega))
      | (go_at_call 91; refine (spec_ProofBody id _ _ _ l1 _ _ _ l2 tick _ _ _ l3 _ (r1.keep0 g4) (r2.keep0 g4) (r3.keep0 g4)).mono ?_; rw [← HB.out]; rintro e w5 ⟨a5, n5, c5, rfl, o5, g5⟩; obtain rfl : n5 = 0 := o5.blen.symm))
    go_ret
    first | exact ⟨_, _, _, rfl, Ow.nil _ _ _, gb_trans g4 g5⟩ | exact ⟨_, _, _, rfl, (new_own _ _).mono (gb_trans g4 g5).size, gb_alloc (gb_trans g4 g5) _⟩
  have hz : ¬ (F.length = 0 ∨ B.length = 0) := by omega
  · rw [if_neg hz]
    clear hz
    go_enter Try.func56, Try.ntmps56
    go_wp2_with (first
      | (go_at_call 90; refine (spec_FinishKey _ _ _ _ _ r).mono ?_; rw [← HF.out]; rintro e w4 ⟨a4, n4, c4, rfl, o4, g4⟩; have e4 := o4.blen; have p4 : ((n4 : Int) == 0) = false := (by rw [beq_eq_false_iff_ne]; omega); have q4 : n4 ≠ 0 := (by omega))
      | (go_at_call 91; refine (spec_ProofBody id _ _ _ l1 _ _ _ l2 tick _ _ _ l3 _ (r1.keep0 g4) (r2.keep0 g4) (r3.keep0 g4)).mono ?_; rw [← HB.out]; rintro e w5 ⟨a5, n5, c5, rfl, o5, g5⟩; have e5 := o5.blen; have p5 : ((n5 : Int) == 0) = false := (by rw [beq_eq_false_iff_ne]; omega); have q5 : n5 ≠ 0 := (by omega))
      | (go_at_call 43; refine (spec_Tag _ _ _ F _ _ _ B _ (o4.rd.keep0 g5) o5.rd (by omega) (by omega)).mono ?_; rintro e w6 ⟨a6, n6, c6, rfl, o6, g6⟩))
    go_ret
    exact retB o6 (gb_trans g4 g5).size (gb_trans (gb_trans g4 g5) g6) rfl
set_option maxRecDepth 1000000 in
set_option maxHeartbeats 1000000 in
theorem impl_Mint (a : Option Addr) (n c : Nat) (l : List UInt8) (h p id : Int) (a1 : Option Addr) (n1 c1 : Nat) (l1 : List UInt8) (a2 : Option Addr) (n2 c2 : Nat) (l2 : List UInt8) (tick : Int) (w : World) (r : Rd w a n c (bys l)) (r1 : Rd w a1 n1 c1 (bys l1)) (r2 : Rd w a2 n2 c2 (bys l2)) :
    Calls Try.prog 68 #[.agg #[.slice a n c], .agg #[.int .i64 h, .int .i64 p], .int .i64 id, .slice a1 n1 c1, .slice a2 n2 c2, .int .i64 tick] w (RetB w (cookM l h p id l1 l2 tick)) := by
  obtain ⟨B, hB⟩ : ∃ B, B = mintM h p id l1 l2 tick := ⟨_, rfl⟩
  have BL := mintM_len h p id l1 l2 tick
  rw [cookM]
  rw [← hB] at BL ⊢
  have HB := Lib.hid hB
  have L := Lib.hid r.blen
  clear hB
  have g0 := gb_alloc (gb_alloc (gb_refl w) (.cells #[.slice a n c] 44)) (.cells #[.int .i64 h, .int .i64 p] 46)
  have bb := bx2 w #[.slice a n c] #[.int .i64 h, .int .i64 p] 44 46
  cases hj : ((n : Int) == 32)
  · rw [if_neg (by rw [L.out]; simp at hj; omega)]
    go_enter Try.func68, Try.ntmps68
    go_wp2_with (first
      | (go_at_call 96; refine (impl_MintBody h p id a1 n1 c1 l1 a2 n2 c2 l2 tick _ (r1.keep0 g0) (r2.keep0 g0)).mono ?_; rw [← HB.out]; rintro e w4 ⟨a4, n4, c4, rfl, o4, g4⟩; have b0 := bb.1.keep0 g4; have cc := fun o => b0.cell o; have lt := b0.lt)
      | (go_at_call 64; refine (impl_JarOk a n c _).mono ?_; rw [hj]; rintro e w5 ⟨rfl, g5⟩; replace b0 := b0.keep0 g5; clear cc lt; have cc := fun o => b0.cell o; have lt := b0.lt))
    go_ret
    first | exact ⟨_, _, _, rfl, Ow.nil _ _ _, gb_trans (gb_trans g0 g4) g5⟩ | exact ⟨_, _, _, rfl, (new_own _ _).mono (gb_trans (gb_trans g0 g4) g5).size, gb_alloc (gb_trans (gb_trans g0 g4) g5) _⟩
  have hn : n = 32 := by simp at hj; omega
  by_cases hb : B.length = 0
  · rw [if_neg (by omega)]
    obtain rfl := List.eq_nil_of_length_eq_zero hb
    clear hb hn
    go_enter Try.func68, Try.ntmps68
    go_wp2_with (first
      | (go_at_call 96; refine (impl_MintBody h p id a1 n1 c1 l1 a2 n2 c2 l2 tick _ (r1.keep0 g0) (r2.keep0 g0)).mono ?_; rw [← HB.out]; rintro e w4 ⟨a4, n4, c4, rfl, o4, g4⟩; have b0 := bb.1.keep0 g4; have cc := fun o => b0.cell o; have lt := b0.lt; obtain rfl : n4 = 0 := o4.blen.symm)
      | (go_at_call 64; refine (impl_JarOk a n c _).mono ?_; rw [hj]; rintro e w5 ⟨rfl, g5⟩; replace b0 := b0.keep0 g5; clear cc lt; have cc := fun o => b0.cell o; have lt := b0.lt))
    go_ret
    first | exact ⟨_, _, _, rfl, Ow.nil _ _ _, gb_trans (gb_trans g0 g4) g5⟩ | exact ⟨_, _, _, rfl, (new_own _ _).mono (gb_trans (gb_trans g0 g4) g5).size, gb_alloc (gb_trans (gb_trans g0 g4) g5) _⟩
  · rw [if_pos (by rw [L.out]; exact ⟨hn, hb⟩)]
    have hm : n ≤ 1073741824 := by omega
    clear hn
    go_enter Try.func68, Try.ntmps68
    go_wp2_with (first
      | (go_at_call 96; refine (impl_MintBody h p id a1 n1 c1 l1 a2 n2 c2 l2 tick _ (r1.keep0 g0) (r2.keep0 g0)).mono ?_; rw [← HB.out]; rintro e w4 ⟨a4, n4, c4, rfl, o4, g4⟩; have b0 := bb.1.keep0 g4; have cc := fun o => b0.cell o; have lt := b0.lt; have e4 := o4.blen; have p4 : ((n4 : Int) == 0) = false := (by rw [beq_eq_false_iff_ne]; omega); have q4 : n4 ≠ 0 := (by omega))
      | (go_at_call 64; refine (impl_JarOk a n c _).mono ?_; rw [hj]; rintro e w5 ⟨rfl, g5⟩; replace b0 := b0.keep0 g5; clear cc lt; have cc := fun o => b0.cell o; have lt := b0.lt)
      | (go_at_call 51; refine (impl_Tag _ _ _ l _ _ _ B _ (r.keep0 (gb_trans (gb_trans g0 g4) g5)) (o4.rd.keep0 g5) hm (by omega)).mono ?_; rintro e w6 ⟨a6, n6, c6, rfl, o6, g6⟩))
    go_ret
    exact retB o6 (gb_trans (gb_trans g0 g4) g5).size (gb_trans (gb_trans (gb_trans g0 g4) g5) g6) rfl
set_option maxRecDepth 1000000 in
set_option maxHeartbeats 1000000 in
theorem spec_Mint (a : Option Addr) (n c : Nat) (l : List UInt8) (h p id : Int) (a1 : Option Addr) (n1 c1 : Nat) (l1 : List UInt8) (a2 : Option Addr) (n2 c2 : Nat) (l2 : List UInt8) (tick : Int) (w : World) (r : Rd w a n c (bys l)) (r1 : Rd w a1 n1 c1 (bys l1)) (r2 : Rd w a2 n2 c2 (bys l2)) :
    Calls Try.prog 63 #[.agg #[.slice a n c], .agg #[.int .i64 h, .int .i64 p], .int .i64 id, .slice a1 n1 c1, .slice a2 n2 c2, .int .i64 tick] w (RetB w (cookM l h p id l1 l2 tick)) := by
  obtain ⟨B, hB⟩ : ∃ B, B = mintM h p id l1 l2 tick := ⟨_, rfl⟩
  have BL := mintM_len h p id l1 l2 tick
  rw [cookM]
  rw [← hB] at BL ⊢
  have HB := Lib.hid hB
  have L := Lib.hid r.blen
  clear hB
  have g0 := gb_alloc (gb_alloc (gb_refl w) (.cells #[.slice a n c] 44)) (.cells #[.int .i64 h, .int .i64 p] 46)
  have bb := bx2 w #[.slice a n c] #[.int .i64 h, .int .i64 p] 44 46
  cases hj : ((n : Int) == 32)
  · rw [if_neg (by rw [L.out]; simp at hj; omega)]
    go_enter Try.func63, Try.ntmps63
    go_wp2_with (first
      | (go_at_call 95; refine (spec_MintBody h p id a1 n1 c1 l1 a2 n2 c2 l2 tick _ (r1.keep0 g0) (r2.keep0 g0)).mono ?_; rw [← HB.out]; rintro e w4 ⟨a4, n4, c4, rfl, o4, g4⟩; have b0 := bb.1.keep0 g4; have cc := fun o => b0.cell o; have lt := b0.lt)
      | (go_at_call 59; refine (spec_JarOk a n c _).mono ?_; rw [hj]; rintro e w5 ⟨rfl, g5⟩; replace b0 := b0.keep0 g5; clear cc lt; have cc := fun o => b0.cell o; have lt := b0.lt))
    go_ret
    first | exact ⟨_, _, _, rfl, Ow.nil _ _ _, gb_trans (gb_trans g0 g4) g5⟩ | exact ⟨_, _, _, rfl, (new_own _ _).mono (gb_trans (gb_trans g0 g4) g5).size, gb_alloc (gb_trans (gb_trans g0 g4) g5) _⟩
  have hn : n = 32 := by simp at hj; omega
  by_cases hb : B.length = 0
  · rw [if_neg (by omega)]
    obtain rfl := List.eq_nil_of_length_eq_zero hb
    clear hb hn
    go_enter Try.func63, Try.ntmps63
    go_wp2_with (first
      | (go_at_call 95; refine (spec_MintBody h p id a1 n1 c1 l1 a2 n2 c2 l2 tick _ (r1.keep0 g0) (r2.keep0 g0)).mono ?_; rw [← HB.out]; rintro e w4 ⟨a4, n4, c4, rfl, o4, g4⟩; have b0 := bb.1.keep0 g4; have cc := fun o => b0.cell o; have lt := b0.lt; obtain rfl : n4 = 0 := o4.blen.symm)
      | (go_at_call 59; refine (spec_JarOk a n c _).mono ?_; rw [hj]; rintro e w5 ⟨rfl, g5⟩; replace b0 := b0.keep0 g5; clear cc lt; have cc := fun o => b0.cell o; have lt := b0.lt))
    go_ret
    first | exact ⟨_, _, _, rfl, Ow.nil _ _ _, gb_trans (gb_trans g0 g4) g5⟩ | exact ⟨_, _, _, rfl, (new_own _ _).mono (gb_trans (gb_trans g0 g4) g5).size, gb_alloc (gb_trans (gb_trans g0 g4) g5) _⟩
  · rw [if_pos (by rw [L.out]; exact ⟨hn, hb⟩)]
    have hm : n ≤ 1073741824 := by omega
    clear hn
    go_enter Try.func63, Try.ntmps63
    go_wp2_with (first
      | (go_at_call 95; refine (spec_MintBody h p id a1 n1 c1 l1 a2 n2 c2 l2 tick _ (r1.keep0 g0) (r2.keep0 g0)).mono ?_; rw [← HB.out]; rintro e w4 ⟨a4, n4, c4, rfl, o4, g4⟩; have b0 := bb.1.keep0 g4; have cc := fun o => b0.cell o; have lt := b0.lt; have e4 := o4.blen; have p4 : ((n4 : Int) == 0) = false := (by rw [beq_eq_false_iff_ne]; omega); have q4 : n4 ≠ 0 := (by omega))
      | (go_at_call 59; refine (spec_JarOk a n c _).mono ?_; rw [hj]; rintro e w5 ⟨rfl, g5⟩; replace b0 := b0.keep0 g5; clear cc lt; have cc := fun o => b0.cell o; have lt := b0.lt)
      | (go_at_call 43; refine (spec_Tag _ _ _ l _ _ _ B _ (r.keep0 (gb_trans (gb_trans g0 g4) g5)) (o4.rd.keep0 g5) hm (by omega)).mono ?_; rintro e w6 ⟨a6, n6, c6, rfl, o6, g6⟩))
    go_ret
    exact retB o6 (gb_trans (gb_trans g0 g4) g5).size (gb_trans (gb_trans (gb_trans g0 g4) g5) g6) rfl
end Go.Proofs.Ytfjbfgonkimboaa
